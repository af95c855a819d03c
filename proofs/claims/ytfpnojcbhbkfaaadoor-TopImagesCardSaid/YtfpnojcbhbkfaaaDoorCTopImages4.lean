/- A part of a proof that a law's Go function returns true for every input, laid by this session's program mp.py (which drives the kit's print). Conditions: as each theorem states them. -/
import Derived.StillTailTactics
import Derived.Laws.EntriesVeiled
import Derived.Shelf.Abstract
import Derived.RegionTactic
import Derived.Maps.AppendAt
import Derived.Lib.SliceRun
import Derived.Test.YtfpnojcbhbkfaaaDoorCTopImages1
import Derived.Test.YtfpnojcbhbkfaaaDoorCTopImages2
import Derived.Test.YtfpnojcbhbkfaaaDoorCTopImages3
namespace Go.Proofs.YtfpnojcbhbkfaaaDoor.P
open Go.RowKit Go.Proofs.YtfpnojcbhbkfaaaDoorW.PrintWords Go.Proofs.YtfpnojcbhbkfaaaDoorW.PrintLast Go.Proofs.YtfpnojcbhbkfaaaDoorW.PrintMore
attribute [local go_sem] max2_int min2_int max_two min_two max_three min_three max_four min_four   -- for this text's walks alone
set_option linter.unusedVariables false
set_option linter.unusedSimpArgs false

/-! ### slices_Equal_int_int: function 13 -/
def slices_Equal_int_int.l0 : Nat → List Int → List Int → Int → Int → Option (Bool)
  | 0, _, _, _, _ => none
  | k + 1, x0, x1, x12, x13 => if x13 < x12 then (if 0 ≤ x13 then (if x13 < (x0.length : Int) then (if x13 < (x1.length : Int) then (if (rd x0 x13) = (rd x1 x13) then (slices_Equal_int_int.l0 k x0 x1 x12 (wrap64 (x13 + 1))) else (some false)) else (none)) else (none)) else (none)) else (some true)
def slices_Equal_int_int.f (k : Nat) (l0 : List Int) (l1 : List Int) : Option (Bool) := if (l0.length : Int) = (l1.length : Int) then (slices_Equal_int_int.l0 k l0 l1 (l0.length : Int) 0) else (some false)
theorem slices_Equal_int_int.mono_l : ∀ k, (∀ y0 y1 y2 y3, LeO (slices_Equal_int_int.l0 k y0 y1 y2 y3) (slices_Equal_int_int.l0 (k + 1) y0 y1 y2 y3))
  | 0 => fun _ _ _ _ r h => by simp [slices_Equal_int_int.l0] at h
  | k + 1 => by
    have ih0 := slices_Equal_int_int.mono_l k
    · intro y0 y1 y2 y3
      unfold slices_Equal_int_int.l0
      repeat' first
      | (with_reducible exact ih0 _ _ _ _)
      | (with_reducible exact LeO.refl _)
      | (with_reducible exact LeO.none _)
      | (with_reducible refine LeO.ite ?_ ?_)
      | (with_reducible refine LeO.bind ?_ (fun _ => ?_))
      | exact ih0 _ _ _ _
      | exact LeO.none _
      | refine LeO.ite ?_ ?_
      | refine LeO.bind ?_ (fun _ => ?_)
theorem slices_Equal_int_int.mono : ∀ a0 a1 k, LeO (slices_Equal_int_int.f k a0 a1) (slices_Equal_int_int.f (k + 1) a0 a1) := by
  intro a0 a1 k
  have ih0 := slices_Equal_int_int.mono_l k
  unfold slices_Equal_int_int.f
  repeat' first
      | (with_reducible exact ih0 _ _ _ _)
      | (with_reducible exact LeO.refl _)
      | (with_reducible exact LeO.none _)
      | (with_reducible refine LeO.ite ?_ ?_)
      | (with_reducible refine LeO.bind ?_ (fun _ => ?_))
      | exact ih0 _ _ _ _
      | exact LeO.none _
      | refine LeO.ite ?_ ?_
      | refine LeO.bind ?_ (fun _ => ?_)
set_option maxHeartbeats 8000000 in
set_option maxRecDepth 100000 in
theorem slices_Equal_int_int.calls (k : Nat) (A0 : Option Addr) (c0 : Nat) (l0 : List Int) (A1 : Option Addr) (c1 : Nat) (l1 : List Int) (r : Bool) (w : World) (hr0 : Kd.C (Kd.int .i64) w A0 l0.length l0) (hc0 : l0.length ≤ c0) (hr1 : Kd.C (Kd.int .i64) w A1 l1.length l1) (hc1 : l1.length ≤ c1) (h : slices_Equal_int_int.f k l0 l1 = some r) :
    Calls Tryd.prog 13 #[.slice A0 l0.length c0, .slice A1 l1.length c1] w fun e w' => e = .returned (.bool r) ∧ Drawn0 w w' := by
  have HR0 := Aside0.mk hr0
  have HC0 := Aside0.mk hc0
  clear hr0 hc0
  have HR1 := Aside0.mk hr1
  have HC1 := Aside0.mk hc1
  clear hr1 hc1
  have H : (if (l0.length : Int) = (l1.length : Int) then (slices_Equal_int_int.l0 k l0 l1 (l0.length : Int) 0) else (some false)) = some r := h
  clear h
  by_cases c3 : (l0.length : Int) = (l1.length : Int)
  · rw [if_pos c3] at H
    have c3b0 : ((l0.length : Int) == (l1.length : Int)) = true := beq_iff_eq.mpr c3
    have c3b1 : ((l0.length : Int) != (l1.length : Int)) = false := bne_eq_false_iff_eq.mpr c3
    have c3b2 : (l0.length == l1.length) = true := by first | simpa using c3 | (simp at c3 ⊢; omega)
    clear c3
    have H' := Aside0.mk H
    clear H
    go_enter Tryd.func13, Tryd.ntmps13
    go_wp2
    repeat (go_quiet (fail); try go_wp2)
    go_loopg [13] k (fun kq v13 w' => ∃ (x13_1 : Int), v13 = .int .i64 x13_1 ∧ Aside0 (slices_Equal_int_int.l0 kq l0 l1 (l0.length : Int) x13_1 = some r) ∧ Aside0 (kq ≤ k) ∧ Drawn0 w w')
    case atStart => exact ⟨(0), (by first | rfl | (simp; done) | (simp [*]; done)), H', ⟨Nat.le_refl _⟩, by repeat (first | exact Drawn0.refl _ | apply Drawn0.step)⟩
    case round =>
      clear H'
      try clear c1
      try clear p2
      try clear c3
      try clear c3b0
      try clear c3b1
      try clear c3b2
      obtain ⟨x13_1, rfl, HA, HK1, ⟨m1, rfl⟩⟩ := hrel
      cases gk with
      | zero => exact absurd HA.out (by simp [slices_Equal_int_int.l0])
      | succ k1 =>
        have H := HA.out
        clear HA
        simp only [slices_Equal_int_int.l0] at H
        by_cases c4 : x13_1 < (l0.length : Int)
        · rw [if_pos c4] at H
          have c4b0 : decide (x13_1 < (l0.length : Int)) = true := decide_eq_true c4
          clear c4
          by_cases c5 : 0 ≤ x13_1
          · rw [if_pos c5] at H
            have c5b0 : decide (0 ≤ x13_1) = true := decide_eq_true c5
            clear c5
            by_cases c6 : x13_1 < (l0.length : Int)
            · rw [if_pos c6] at H
              have c6b0 : decide (x13_1 < (l0.length : Int)) = true := decide_eq_true c6
              clear c6
              by_cases c7 : x13_1 < (l1.length : Int)
              · rw [if_pos c7] at H
                have c7b0 : decide (x13_1 < (l1.length : Int)) = true := decide_eq_true c7
                clear c7
                by_cases c8 : (rd l0 x13_1) = (rd l1 x13_1)
                · rw [if_pos c8] at H
                  have c8b0 : ((rd l0 x13_1) == (rd l1 x13_1)) = true := beq_iff_eq.mpr c8
                  have c8b1 : ((rd l0 x13_1) != (rd l1 x13_1)) = false := bne_eq_false_iff_eq.mpr c8
                  clear c8
                  have H' := Aside0.mk H
                  clear H
                  have p1001 : 0 ≤ (x13_1 : Int) := of_decide_eq_true (by first | (with_reducible assumption) | assumption)
                  have q1001 : x13_1 < (l0.length : Int) := of_decide_eq_true (by first | (with_reducible assumption) | assumption)
                  obtain ⟨ad1001, e1001, hx1001_0⟩ := Kd.at_int HR0.out x13_1 p1001 q1001
                  cases e1001
                  replace p1001 := eq_true p1001
                  replace q1001 := eq_true q1001
                  have p1002 : 0 ≤ (x13_1 : Int) := of_decide_eq_true (by first | (with_reducible assumption) | assumption)
                  have q1002 : x13_1 < (l1.length : Int) := of_decide_eq_true (by first | (with_reducible assumption) | assumption)
                  obtain ⟨ad1002, e1002, hx1002_0⟩ := Kd.at_int HR1.out x13_1 p1002 q1002
                  cases e1002
                  replace p1002 := eq_true p1002
                  replace q1002 := eq_true q1002
                  go_wp2
                  repeat (go_quiet (fail); try go_wp2)
                  go_roundg k1
                  case measure => have := HK1.out; omega
                  case rel => exact ⟨(wrap64 (x13_1 + 1)), (by first | rfl | (simp; done) | (simp [*]; done)), H', ⟨by have := HK1.out; omega⟩, by repeat (first | exact Drawn0.refl _ | apply Drawn0.step)⟩
                · rw [if_neg c8] at H
                  have c8b0 : ((rd l0 x13_1) == (rd l1 x13_1)) = false := beq_eq_false_iff_ne.mpr c8
                  have c8b1 : ((rd l0 x13_1) != (rd l1 x13_1)) = true := bne_iff_ne.mpr c8
                  obtain rfl := Option.some.inj H
                  have p1001 : 0 ≤ (x13_1 : Int) := of_decide_eq_true (by first | (with_reducible assumption) | assumption)
                  have q1001 : x13_1 < (l0.length : Int) := of_decide_eq_true (by first | (with_reducible assumption) | assumption)
                  obtain ⟨ad1001, e1001, hx1001_0⟩ := Kd.at_int HR0.out x13_1 p1001 q1001
                  cases e1001
                  replace p1001 := eq_true p1001
                  replace q1001 := eq_true q1001
                  have p1002 : 0 ≤ (x13_1 : Int) := of_decide_eq_true (by first | (with_reducible assumption) | assumption)
                  have q1002 : x13_1 < (l1.length : Int) := of_decide_eq_true (by first | (with_reducible assumption) | assumption)
                  obtain ⟨ad1002, e1002, hx1002_0⟩ := Kd.at_int HR1.out x13_1 p1002 q1002
                  cases e1002
                  replace p1002 := eq_true p1002
                  replace q1002 := eq_true q1002
                  go_wp2
                  repeat (go_quiet (fail); try go_wp2)
                  go_ret
                  exact ⟨by first | rfl | (simp; done) | (simp [*]; done), by repeat (first | exact Drawn0.refl _ | apply Drawn0.step)⟩
              · rw [if_neg c7] at H
                exact absurd H (by simp)
            · rw [if_neg c6] at H
              exact absurd H (by simp)
          · rw [if_neg c5] at H
            exact absurd H (by simp)
        · rw [if_neg c4] at H
          have c4b0 : decide (x13_1 < (l0.length : Int)) = false := decide_eq_false c4
          clear c4
          obtain rfl := Option.some.inj H
          go_wp2
          repeat (go_quiet (fail); try go_wp2)
          go_ret
          exact ⟨by first | rfl | (simp; done) | (simp [*]; done), by repeat (first | exact Drawn0.refl _ | apply Drawn0.step)⟩
  · rw [if_neg c3] at H
    have c3b0 : ((l0.length : Int) == (l1.length : Int)) = false := beq_eq_false_iff_ne.mpr c3
    have c3b1 : ((l0.length : Int) != (l1.length : Int)) = true := bne_iff_ne.mpr c3
    have c3b2 : (l0.length == l1.length) = false := by first | simpa using c3 | (simp at c3 ⊢; omega)
    obtain rfl := Option.some.inj H
    go_enter Tryd.func13, Tryd.ntmps13
    go_wp2
    repeat (go_quiet (fail); try go_wp2)
    go_ret
    exact ⟨by first | rfl | (simp; done) | (simp [*]; done), by repeat (first | exact Drawn0.refl _ | apply Drawn0.step)⟩

end Go.Proofs.YtfpnojcbhbkfaaaDoor.P
namespace Go.Proofs.YtfpnojcbhbkfaaaDoor.P
open Go.RowKit Go.Proofs.YtfpnojcbhbkfaaaDoorW.PrintWords Go.Proofs.YtfpnojcbhbkfaaaDoorW.PrintLast Go.Proofs.YtfpnojcbhbkfaaaDoorW.PrintMore
attribute [local go_sem] max2_int min2_int max_two min_two max_three min_three max_four min_four   -- for this text's walks alone
set_option linter.unusedVariables false
set_option linter.unusedSimpArgs false

/-! slices.Equal -/
theorem Equal_loop (l0 l1 : List Int) (hlen : l0.length = l1.length) (hb : l0.length < 9223372036854775807) : ∀ (xs ys pre pre1 : List Int), l0 = pre ++ xs → l1 = pre1 ++ ys → pre.length = pre1.length →
    Ev (fun k => slices_Equal_int_int.l0 k l0 l1 (l0.length : Int) (pre.length : Int)) (decide (xs = ys)) := by
  intro xs
  induction xs with
  | nil =>
    intro ys pre pre1 h0 h1 hp
    have hy : ys = [] := by
      have := congrArg List.length h0; have := congrArg List.length h1
      simp at *
      exact List.eq_nil_of_length_eq_zero (by omega)
    subst hy
    refine Ev.succ ?_
    simp only [slices_Equal_int_int.l0, if_neg (mid_end h0)]
    simpa using Ev.some true
  | cons x xs ih =>
    intro ys pre pre1 h0 h1 hp
    cases ys with
    | nil => exfalso; have := congrArg List.length h0; have := congrArg List.length h1; simp at *; omega
    | cons y ys =>
      have r1 : rd l1 (pre.length : Int) = y := by rw [hp]; exact mid_rd h1
      have l1' : (pre.length : Int) < (l1.length : Int) := by rw [hp]; exact mid_lt h1
      refine Ev.succ ?_
      simp only [slices_Equal_int_int.l0, if_pos (mid_lt h0), if_pos (show (0 : Int) ≤ (pre.length : Int) by omega), if_pos l1', mid_rd h0, r1, mid_next h0 hb]
      refine Ev.ite (fun e => ?_) (fun e => ?_)
      · have := ih ys (pre ++ [x]) (pre1 ++ [y]) (mid_mv h0) (mid_mv h1) (by simp [hp])
        simpa [e] using this
      · simpa [e] using Ev.some false
theorem Equal_ev (l0 l1 : List Int) (hb : l0.length < 9223372036854775807) : Ev (fun k => slices_Equal_int_int.f k l0 l1) (decide (l0 = l1)) := by
  unfold slices_Equal_int_int.f
  refine Ev.ite (fun e => ?_) (fun e => ?_)
  · exact Equal_loop l0 l1 (by omega) hb l0 l1 [] [] rfl rfl rfl
  · have : l0 ≠ l1 := fun h => e (by rw [h])
    simpa [this] using Ev.some false


end Go.Proofs.YtfpnojcbhbkfaaaDoor.P
namespace Go.Proofs.YtfpnojcbhbkfaaaDoor.P
open Go.RowKit Go.Proofs.YtfpnojcbhbkfaaaDoorW.PrintWords Go.Proofs.YtfpnojcbhbkfaaaDoorW.PrintLast Go.Proofs.YtfpnojcbhbkfaaaDoorW.PrintMore
attribute [local go_sem] max2_int min2_int max_two min_two max_three min_three max_four min_four   -- for this text's walks alone
set_option linter.unusedVariables false
set_option linter.unusedSimpArgs false

/-! wheels.powers: the power of a wheel -/
def powV (n : Nat) (l : List Nat) (k : Nat) : Nat := l.getD k 0 * l.getD ((n - k) % n) 0
def specL (n q f : Nat) (l : List Nat) : List Nat := (List.range n).map fun k => turnedV q n f l k % q
theorem specL_len (n q f : Nat) (l : List Nat) : (specL n q f l).length = n := by unfold specL; simp
theorem specL_lt {n q f : Nat} {l : List Nat} (hq : 1 ≤ q) : ∀ x ∈ specL n q f l, x < q := fun x hx => by
  unfold specL at hx
  obtain ⟨y, _, rfl⟩ := List.mem_map.1 hx
  exact Nat.mod_lt _ hq
theorem wheel_spec (n q f : Nat) (l : List Nat) : wheelL n q (turnedV q n f l) = natsI (specL n q f l) := by
  unfold wheelL natsI specL
  rw [List.map_map]
  rfl
structure PwAt (n : Nat) (l : List Nat) (Bl BF : Nat) (A : Option Addr) (c : Nat) (w : World) : Prop where
  l0 : w.cell? ⟨Bl, 0, none⟩ = some (.slice A l.length c)
  f0 : w.cell? ⟨BF, 0, none⟩ = some (.int .i64 (n : Int))
  r : Kd.C (Kd.int .i64) w A (natsI l).length (natsI l)
theorem PwAt.to {n : Nat} {l : List Nat} {Bl BF : Nat} {A : Option Addr} {c : Nat} {w W : World} (h : PwAt n l Bl BF A c w) (hb : Below w.heap.size w W) : PwAt n l Bl BF A c W :=
  ⟨cell_to h.l0 hb, cell_to h.f0 hb, Kd.C_below h.r hb⟩
set_option maxHeartbeats 8000000 in
set_option maxRecDepth 100000 in
theorem powers1_calls (n : Nat) (l : List Nat) (Bl BF : Nat) (A : Option Addr) (c x : Nat) (hn : n ≤ 16) (hl : l.length = n) (hlq : ∀ x ∈ l, x < 1000) (hx : x < n) (w : World) (h : PwAt n l Bl BF A c w) :
    Calls Tryd.prog 111 #[.int .i64 (x : Int), .pointer (some ⟨Bl, 0, none⟩), .pointer (some ⟨BF, 0, none⟩)] w fun e w' => e = .returned (.int .i64 (powV n l x : Int)) ∧ Below w.heap.size w w' := by
  obtain ⟨i, hi⟩ : ∃ i, i = (n - x) % n := ⟨_, rfl⟩
  have hin : i < n := by rw [hi]; exact Nat.mod_lt _ (by omega)
  obtain ⟨v, hvv⟩ : ∃ v, v = l.getD x 0 := ⟨_, rfl⟩
  obtain ⟨u, huu⟩ : ∃ v, v = l.getD i 0 := ⟨_, rfl⟩
  have hvl : v < 1000 := by rw [hvv]; exact getD_lt (by omega) hlq x
  have hul : u < 1000 := by rw [huu]; exact getD_lt (by omega) hlq i
  have hv : powV n l x = v * u := by unfold powV; rw [← hi, hvv, huu]
  obtain ⟨ad, ead, hcell⟩ := Kd.at_int h.r (x : Int) (by omega) (by rw [natsI_len]; omega)
  obtain ⟨ad2, ead2, hcell2⟩ := Kd.at_int h.r (i : Int) (by omega) (by rw [natsI_len]; omega)
  rw [rd_natsI, Int.toNat_natCast, ← hvv] at hcell
  rw [rd_natsI, Int.toNat_natCast, ← huu] at hcell2
  rw [hv]
  have hmul : v * u ≤ 1000 * 1000 := Nat.mul_le_mul (by omega) (by omega)
  have hm : Int.tmod (wrap64 ((n : Int) - (x : Int))) (n : Int) = (i : Int) := by
    rw [wrap_id (by omega) (by omega), show (n : Int) - (x : Int) = ((n - x : Nat) : Int) by omega, Int.tmod_eq_emod_of_nonneg (by omega), ← Int.natCast_emod, hi]
  have hml : wrap64 ((v : Int) * (u : Int)) = ((v * u : Nat) : Int) := by rw [← Int.natCast_mul, wrap_id (by omega) (by omega)]
  have hl0 := h.l0
  have hf0 := h.f0
  cases ead
  have e2 : ad2 = ad := by injection ead2 with e; exact e.symm
  subst e2
  rw [hl] at hl0
  have hS0 : w.drew.cell? ⟨Bl, 0, none⟩ = some (.slice (some ad2) n c) ∧ w.drew.cell? ⟨BF, 0, none⟩ = some (.int .i64 (n : Int)) ∧ w.drew.cell? (ad2.add x) = some (.int .i64 (v : Int)) ∧ w.drew.cell? (ad2.add i) = some (.int .i64 (u : Int)) := ⟨hl0, hf0, hcell, hcell2⟩
  have hnz : ¬ (n : Int) = 0 := by omega
  have hnzn : ¬ n = 0 := by omega
  have hiz : (i : Int) < (n : Int) := by omega
  have hi0 : (0 : Int) ≤ (i : Int) := by omega
  have hxz : (x : Int) < (n : Int) := by omega
  have hx0 : (0 : Int) ≤ (x : Int) := by omega
  clear hi hv hvv huu h hl0 hf0 hcell hcell2 hlq hmul ead2
  go_enter Tryd.func111, Tryd.ntmps111
  go_wp2_with fail
  refine start_ (n := 16) (S := (fun w' => w'.cell? ⟨Bl, 0, none⟩ = some (.slice (some ad2) n c) ∧ w'.cell? ⟨BF, 0, none⟩ = some (.int .i64 (n : Int)) ∧ w'.cell? (ad2.add x) = some (.int .i64 (v : Int)) ∧ w'.cell? (ad2.add i) = some (.int .i64 (u : Int)))) (ds := []) #[false, false, false, false, false, false, false, false, false, false, false, false, false, false, false, false] (by kernel_rfl) rfl rfl hS0 (fun _ => ?_)
  refine pure_ (i := 1) (N := some 6) (v := ?_) (a' := ?_) #[false, true, false, false, false, false, false, false, false, false, false, false, false, false, false, false] rfl rfl (by kernel_rfl) (fun _ _ _ h => h) (Or.inl ⟨by rfl, ?_⟩) ?_ ?_
  rotate_left
  · intro w'
    go_simp
    with_reducible rfl
  rotate_left
  · simp only [Act.put, List.setIfInBounds_toArray, List.set_cons_zero, List.set_cons_succ, i64_w, i32_w]
    rfl
  refine pure_ (i := 5) (N := some 10) (v := ?_) (a' := ?_) #[false, true, false, false, false, true, false, false, false, false, false, false, false, false, false, false] rfl rfl (by kernel_rfl) (fun _ _ _ h => h) (Or.inl ⟨by rfl, ?_⟩) ?_ ?_
  rotate_left
  · intro w'
    go_simp
    with_reducible rfl
  rotate_left
  · simp only [Act.put, List.setIfInBounds_toArray, List.set_cons_zero, List.set_cons_succ, i64_w, i32_w]
    rfl
  refine pure_ (i := 7) (N := some 12) (v := ?_) (a' := ?_) #[false, true, false, false, false, true, false, true, false, false, false, false, false, false, false, false] rfl rfl (by kernel_rfl) (fun _ _ _ h => h) (Or.inl ⟨by rfl, ?_⟩) ?_ ?_
  rotate_left
  · intro w'
    go_simp
    with_reducible rfl
  rotate_left
  · simp only [Act.put, List.setIfInBounds_toArray, List.set_cons_zero, List.set_cons_succ, i64_w, i32_w]
    rfl
  refine pure_ (i := 9) (N := some 14) (v := ?_) (a' := ?_) #[false, true, false, false, false, true, false, true, false, true, false, false, false, false, false, false] rfl rfl (by kernel_rfl) (fun _ _ _ h => h) (Or.inl ⟨by rfl, ?_⟩) ?_ ?_
  rotate_left
  · intro w'
    go_simp
    with_reducible rfl
  rotate_left
  · simp only [Act.put, List.setIfInBounds_toArray, List.set_cons_zero, List.set_cons_succ, i64_w, i32_w]
    rfl
  refine take_ (i := 0) (N := some 5) (v := ?_) (a' := ?_) #[true, true, false, false, false, true, false, true, false, true, false, false, false, false, false, false] rfl rfl (by kernel_rfl) (fun _ _ _ h => h) (Or.inl ⟨by rfl, ?_⟩) hS0 ?_ ?_
  rotate_left
  · rintro w' ⟨k0', k1', k2', k3'⟩
    go_simp
    with_reducible rfl
  rotate_left
  · simp only [Act.put, List.setIfInBounds_toArray, List.set_cons_zero, List.set_cons_succ, i64_w, i32_w]
    rfl
  refine take_ (i := 4) (N := some 9) (v := ?_) (a' := ?_) #[true, true, false, false, true, true, false, true, false, true, false, false, false, false, false, false] rfl rfl (by kernel_rfl) (fun _ _ _ h => h) (Or.inl ⟨by rfl, ?_⟩) hS0 ?_ ?_
  rotate_left
  · rintro w' ⟨k0', k1', k2', k3'⟩
    go_simp
    with_reducible rfl
  rotate_left
  · simp only [Act.put, List.setIfInBounds_toArray, List.set_cons_zero, List.set_cons_succ, i64_w, i32_w]
    rfl
  refine take_ (i := 6) (N := some 11) (v := ?_) (a' := ?_) #[true, true, false, false, true, true, true, true, false, true, false, false, false, false, false, false] rfl rfl (by kernel_rfl) (fun _ _ _ h => h) (Or.inl ⟨by rfl, ?_⟩) hS0 ?_ ?_
  rotate_left
  · rintro w' ⟨k0', k1', k2', k3'⟩
    go_simp
    with_reducible rfl
  rotate_left
  · simp only [Act.put, List.setIfInBounds_toArray, List.set_cons_zero, List.set_cons_succ, i64_w, i32_w]
    rfl
  refine take_ (i := 10) (N := some 15) (v := ?_) (a' := ?_) #[true, true, false, false, true, true, true, true, false, true, true, false, false, false, false, false] rfl rfl (by kernel_rfl) (fun _ _ _ h => h) (Or.inl ⟨by rfl, ?_⟩) hS0 ?_ ?_
  rotate_left
  · rintro w' ⟨k0', k1', k2', k3'⟩
    go_simp
    with_reducible rfl
  rotate_left
  · simp only [Act.put, List.setIfInBounds_toArray, List.set_cons_zero, List.set_cons_succ, i64_w, i32_w]
    rfl
  refine pure_ (i := 2) (N := some 7) (v := ?_) (a' := ?_) #[true, true, true, false, true, true, true, true, false, true, true, false, false, false, false, false] rfl rfl (by kernel_rfl) (fun _ _ _ h => h) (Or.inl ⟨by rfl, ?_⟩) ?_ ?_
  rotate_left
  · intro w'
    go_simp
    with_reducible rfl
  rotate_left
  · simp only [Act.put, List.setIfInBounds_toArray, List.set_cons_zero, List.set_cons_succ, i64_w, i32_w]
    rfl
  refine take_ (i := 3) (N := some 8) (v := ?_) (a' := ?_) #[true, true, true, true, true, true, true, true, false, true, true, false, false, false, false, false] rfl rfl (by kernel_rfl) (fun _ _ _ h => h) (Or.inl ⟨by rfl, ?_⟩) hS0 ?_ ?_
  rotate_left
  · rintro w' ⟨k0', k1', k2', k3'⟩
    go_simp
    with_reducible rfl
  rotate_left
  · simp only [Act.put, List.setIfInBounds_toArray, List.set_cons_zero, List.set_cons_succ, i64_w, i32_w]
    rfl
  refine pure_ (i := 8) (N := some 13) (v := ?_) (a' := ?_) #[true, true, true, true, true, true, true, true, true, true, true, false, false, false, false, false] rfl rfl (by kernel_rfl) (fun _ _ _ h => h) (Or.inl ⟨by rfl, ?_⟩) ?_ ?_
  rotate_left
  · intro w'
    go_simp
    with_reducible rfl
  rotate_left
  · simp only [Act.put, List.setIfInBounds_toArray, List.set_cons_zero, List.set_cons_succ, i64_w, i32_w]
    rfl
  refine pure_ (i := 11) (N := some 16) (v := ?_) (a' := ?_) #[true, true, true, true, true, true, true, true, true, true, true, true, false, false, false, false] rfl rfl (by kernel_rfl) (fun _ _ _ h => h) (Or.inl ⟨by rfl, ?_⟩) ?_ ?_
  rotate_left
  · intro w'
    go_simp
    with_reducible rfl
  rotate_left
  · simp only [Act.put, List.setIfInBounds_toArray, List.set_cons_zero, List.set_cons_succ, i64_w, i32_w]
    rfl
  try rw [hm]
  refine pure_ (i := 12) (N := some 17) (v := ?_) (a' := ?_) #[true, true, true, true, true, true, true, true, true, true, true, true, true, false, false, false] rfl rfl (by kernel_rfl) (fun _ _ _ h => h) (Or.inl ⟨by rfl, ?_⟩) ?_ ?_
  rotate_left
  · intro w'
    go_simp
    with_reducible rfl
  rotate_left
  · simp only [Act.put, List.setIfInBounds_toArray, List.set_cons_zero, List.set_cons_succ, i64_w, i32_w]
    rfl
  refine take_ (i := 13) (N := some 18) (v := ?_) (a' := ?_) #[true, true, true, true, true, true, true, true, true, true, true, true, true, true, false, false] rfl rfl (by kernel_rfl) (fun _ _ _ h => h) (Or.inl ⟨by rfl, ?_⟩) hS0 ?_ ?_
  rotate_left
  · rintro w' ⟨k0', k1', k2', k3'⟩
    go_simp
    with_reducible rfl
  rotate_left
  · simp only [Act.put, List.setIfInBounds_toArray, List.set_cons_zero, List.set_cons_succ, i64_w, i32_w]
    rfl
  refine pure_ (i := 14) (N := some 19) (v := ?_) (a' := ?_) #[true, true, true, true, true, true, true, true, true, true, true, true, true, true, true, false] rfl rfl (by kernel_rfl) (fun _ _ _ h => h) (Or.inl ⟨by rfl, ?_⟩) ?_ ?_
  rotate_left
  · intro w'
    go_simp
    with_reducible rfl
  rotate_left
  · simp only [Act.put, List.setIfInBounds_toArray, List.set_cons_zero, List.set_cons_succ, i64_w, i32_w]
    rfl
  try rw [hml]
  refine pure_ (i := 15) (N := some 4) (v := ?_) (a' := ?_) #[true, true, true, true, true, true, true, true, true, true, true, true, true, true, true, true] rfl rfl (by kernel_rfl) (fun _ _ _ h => h) (Or.inl ⟨by rfl, ?_⟩) ?_ ?_
  rotate_left
  · intro w'
    go_simp
    with_reducible rfl
  rotate_left
  · simp only [Act.put, List.setIfInBounds_toArray, List.set_cons_zero, List.set_cons_succ, i64_w, i32_w]
    rfl
  refine done_ (by kernel_rfl) ?_
  go_wp2
  go_ret
  exact ⟨rfl, below_drew (Below.refl _ _)⟩
set_option maxHeartbeats 8000000 in
set_option maxRecDepth 100000 in
theorem powers_calls (n q f : Nat) (l : List Nat) (A : Option Addr) (c : Nat) (hn1 : 1 ≤ n) (hn : n ≤ 16) (hq : 2 ≤ q) (hq2 : q ≤ 1000) (hu : f < q) (hl : l.length = n) (hlq : ∀ x ∈ l, x < q) (w : World) (hr : Kd.C (Kd.int .i64) w A (natsI l).length (natsI l)) :
    Calls Tryd.prog 76 #[.agg #[.int .i64 (n : Int), .int .i64 (q : Int), .int .i64 (f : Int)], .slice A n c] w fun e w' => ∃ v, e = .returned v ∧ Kd.R (Kd.int .i64) 3 w' w.heap.size (fun _ => True) v (wheelL n q (powV n (specL n q f l))) ∧ Below w.heap.size w w' := by
  have ha : Below w.heap.size w (w.alloc (.cells #[.int .i64 (n : Int), .int .i64 (q : Int), .int .i64 (f : Int)] 80)) := below_alloc (Below.refl _ _) _
  have hc3 := fun i => cells_new w #[.int .i64 (n : Int), .int .i64 (q : Int), .int .i64 (f : Int)] 80 i
  have hsp := spectrum_calls n q f l A c hn1 hn hq hq2 hu (by omega) hlq (w.alloc (.cells #[.int .i64 (n : Int), .int .i64 (q : Int), .int .i64 (f : Int)] 80)) (Kd.C_alloc hr _)
  rw [hl] at hsp
  have HSP := Aside0.mk hsp
  have HB0 := Aside0.mk ha
  have HS2 := Aside0.mk (show (specL n q f l).length = n ∧ ∀ x ∈ specL n q f l, x < q from ⟨specL_len _ _ _ _, specL_lt (by omega)⟩)
  have HWH := Aside0.mk (fun (V : World) (Bl BF : Nat) (A9 : Option Addr) (c9 : Nat) (hV : PwAt n (specL n q f l) Bl BF A9 c9 V) => wheel_calls n q f 111 (by omega) (by omega) (by omega) #[.pointer (some ⟨Bl, 0, none⟩), .pointer (some ⟨BF, 0, none⟩)] (powV n (specL n q f l)) (fun x _ => by
    have h1 := getD_lt (l := specL n q f l) (q := q) (by omega) HS2.out.2 x
    have h2 := getD_lt (l := specL n q f l) (q := q) (by omega) HS2.out.2 ((n - x) % n)
    have := Nat.mul_le_mul (show (specL n q f l).getD x 0 ≤ 1000 by omega) (show (specL n q f l).getD ((n - x) % n) 0 ≤ 1000 by omega)
    unfold powV
    omega) V (fun args W => enters_ Tryd.func111 (by kernel_rfl) rfl args W) (fun W x hx hb => powers1_calls n _ _ _ A9 c9 x hn HS2.out.1 (fun y hy => by have := HS2.out.2 y hy; omega) hx W (hV.to hb)))
  have hc30 : (w.alloc (.cells #[.int .i64 (n : Int), .int .i64 (q : Int), .int .i64 (f : Int)] 80)).cell? ⟨w.heap.size, 0, none⟩ = some (.int .i64 (n : Int)) := hc3 0
  have hc31 : (w.alloc (.cells #[.int .i64 (n : Int), .int .i64 (q : Int), .int .i64 (f : Int)] 80)).cell? ⟨w.heap.size, 1, none⟩ = some (.int .i64 (q : Int)) := hc3 1
  have hc32 : (w.alloc (.cells #[.int .i64 (n : Int), .int .i64 (q : Int), .int .i64 (f : Int)] 80)).cell? ⟨w.heap.size, 2, none⟩ = some (.int .i64 (f : Int)) := hc3 2
  have HC := Aside0.mk (And.intro hc30 (And.intro hc31 hc32))
  have hmf : ∀ (fn : Fn) (first cap : Array Value) (w : World), (Instr.makeFunc fn first cap).run Tryd.prog w = .ok (.func fn first cap) w := fun _ _ _ _ => rfl
  clear hr hlq ha hc3 hsp hl hc30 hc31 hc32
  go_enter Tryd.func76, Tryd.ntmps76
  go_wp2_with fail
  refine HSP.out.mono ?_
  rintro e w1 ⟨v, rfl, hR1, hb1⟩
  obtain ⟨A9, c9, e9⟩ := Kd.R_slice hR1
  rw [wheelL_len] at e9
  subst e9
  rw [wheel_spec] at hR1
  have ha2 : Below w1.heap.size w1 (w1.alloc (.cells #[.slice A9 n c9] 22)) := below_alloc (Below.refl _ _) _
  have g0 := cell_to (cell_to HC.out.1 hb1) ha2
  have g1 := cell_to (cell_to HC.out.2.1 hb1) ha2
  have g2 := cell_to (cell_to HC.out.2.2 hb1) ha2
  have gl := cells_new w1 #[.slice A9 n c9] 22 0
  have H1 := Aside0.mk (show PwAt n (specL n q f l) w1.heap.size w.heap.size A9 c9 (w1.alloc (.cells #[.slice A9 n c9] 22)) ∧ Below w.heap.size w (w1.alloc (.cells #[.slice A9 n c9] 22)) from ⟨⟨by rw [specL_len]; exact gl, g0, Kd.C_below (Kd.R_reads' hR1).2.2 ha2⟩, below_step (below_step HB0.out hb1) ha2⟩)
  clear hR1 hb1 ha2 gl
  go_wp2_with fail
  refine (HWH.out _ _ _ _ _ H1.out.1).mono ?_
  rintro e w9 ⟨v, rfl, hR9, hb9⟩
  have H9 := Aside0.mk (And.intro (Kd.R_lower hR9 (below_size H1.out.2)) (below_step H1.out.2 hb9))
  clear hR9 hb9
  go_wp2
  go_ret
  exact ⟨v, rfl, H9.out.1, H9.out.2⟩
/-- append of one row to a slice of rows of our own -/
theorem app_own9 {rest : List Oper} {ops : Array Oper} {o : Oper} {a : Act} {Q : Exit → Act → World → Prop} {W : World} (base : Nat) (v : Value) (m : Nat) (us : List Value) (hown : W.ownsRow base 22 1 v m us) (hbase : base ≤ W.heap.size) (hm : m ≤ 100) (u : Value) (hu : u.oneCell' = true) (hgd : o.guard = none) (s x : Operand) (t' : TypeId)
    (ho : o.op = .call { callee := .builtin .append, args := #[s, x], argTypes := #[81, 81] }) (hs : a.eval s = v) (hx : a.eval x = .slice (some ⟨W.heap.size, 0, none⟩) 1 1)
    (h : ∀ v' w1, w1.ownsRow base 22 1 v' (m + 1) (us ++ [u]) → (W.alloc (.cells #[u] t')).grownBy w1 v.ownBlock → (v'.ownBlock = v.ownBlock ∨ v'.ownBlock = some (W.heap.size + 1)) → wpList Tryd.prog ops Q rest (a.put o.dst v') w1) :
    wpList Tryd.prog ops Q (o :: rest) a (W.alloc (.cells #[u] t')) := by
  obtain ⟨i0, hi, hzz⟩ := Option.map_eq_some_iff.1 infoRow9
  simp only [Prod.mk.injEq] at hzz
  obtain ⟨hz0, hz1, hz2⟩ := hzz
  have hnews : ∀ j u', ([u] : List Value)[j]? = some u' → (W.alloc (.cells #[u] t')).cell? ((⟨W.heap.size, 0, none⟩ : Addr).add j) = some u' := cell_one_new W u t'
  have hsz : (W.alloc (.cells #[u] t')).heap.size = W.heap.size + 1 := by simp
  refine wpList_plain hgd fun K hK => ?_
  obtain ⟨v', w', hr, h2, h3, h4, h5⟩ := run_append_own_at (P := Tryd.prog) (w := W.alloc (.cells #[u] t')) base 81 o.type 22 i0 (.slice none 0 0) 1 24 Tryd.underlying81 hi hz0 hz1 hz2 rfl (by omega) v m us (hown.alloc _) ⟨W.heap.size, 0, none⟩ 1 1 [u] (by simp) hnews (fun u' hu' => by rw [List.mem_singleton.1 hu']; exact hu) (by simp only [maxLen]; omega) (by omega) (by rw [hsz]; omega)
  rw [hsz] at h5
  unfold Oper.wp execOp
  simp only [ho, resolve, invoke, builtin, Sem.run_bind, Sem.run_pure, Result.andThen_ok, List.map_toArray, List.map_cons, List.map_nil, hs, hx, hr]
  exact hK _ _ (h v' w' h2 h3 h5)
theorem R_grown9 {base : Nat} {W V : World} {row : Option Nat} {v : Value} {xs : List Int} (h : Kd.R (Kd.int .i64) 3 W base (fun _ => True) v xs) (hg : W.grownBy V row) (hne : v.ownBlock = none ∨ v.ownBlock ≠ row) : Kd.R (Kd.int .i64) 3 V base (fun _ => True) v xs :=
  Kd.R_of_own (h1 := fun _ => rfl) ((Kd.own_of_R (enc := Value.int .i64) (h1 := fun _ => rfl) h).kept hg hne) (fun _ _ => trivial)
theorem grown_of_below {W V : World} (hb : Below W.heap.size W V) : W.grownBy V none := ⟨hb.os, hb.tape, hb.output, hb.size, fun k hk _ => hb.block k hk⟩
/-- what the reading of two chords finds in memory -/
structure Ch2 (n q f s t R Bz BF : Nat) (w W : World) : Prop where
  st : ChSt n q f (s : Int) R Bz BF w W
  r1 : W.cell? ⟨R, 1, none⟩ = some (.int .i64 (t : Int))
  rz : R < Bz
  bf : Bz < BF
  fl : BF < W.heap.size
theorem Ch2.to {n q f s t R Bz BF : Nat} {w W V : World} (h : Ch2 n q f s t R Bz BF w W) (hb : Below W.heap.size W V) : Ch2 n q f s t R Bz BF w V := ⟨h.st.to hb, cell_to h.r1 hb, h.rz, h.bf, Nat.lt_of_lt_of_le h.fl hb.size⟩
theorem Ch2.grown {n q f s t R Bz BF G : Nat} {w W V : World} (h : Ch2 n q f s t R Bz BF w W) (hg : W.grownBy V (some G)) (hG : BF < G) : Ch2 n q f s t R Bz BF w V := by
  have hrz := h.rz
  have hbf := h.bf
  have hfl := h.fl
  have hge := h.st.ge
  have k : ∀ B i v, B < G → B < W.heap.size → W.cell? ⟨B, i, none⟩ = some v → V.cell? ⟨B, i, none⟩ = some v := fun B i v h1 h2 h3 => (World.cell?_of_block (hg.block B h2 (fun e => by injection e with e; omega))).trans h3
  refine ⟨⟨h.st.bl.grown hg h.st.bl.size (fun x e => by injection e with e; omega), h.st.ge, k _ _ _ (by omega) (by omega) h.st.r0, k _ _ _ hG hfl h.st.f0, k _ _ _ hG hfl h.st.f1, k _ _ _ hG hfl h.st.f2, fun i hi => k _ _ _ (by omega) (by omega) (h.st.z i hi), fun i => ?_⟩, k _ _ _ (by omega) (by omega) h.r1, hrz, hbf, Nat.lt_of_lt_of_le hfl hg.size⟩
  exact (World.frozen?_of_block (a := ⟨Bz, i, none⟩) (hg.block Bz (by omega) (fun e => by injection e with e; omega))).trans (h.st.fr i)
def ChTwo (n s t : Nat) (w : World) (e : Ending) (w' : World) : Prop := ∃ G c v1 v2, e = .returned (.tuple #[.agg #[.int .i64 (n : Int), .int .i64 (qF n : Int), .int .i64 (wF n : Int)], .slice (some ⟨G, 0, none⟩) 2 c, .bool true]) ∧
  w'.cell? ⟨G, 0, none⟩ = some v1 ∧ w'.cell? ⟨G, 1, none⟩ = some v2 ∧ Kd.R (Kd.int .i64) 3 w' w.heap.size (fun _ => True) v1 (wheelL n (qF n) (bitW s)) ∧ Kd.R (Kd.int .i64) 3 w' w.heap.size (fun _ => True) v2 (wheelL n (qF n) (bitW t)) ∧ Below w.heap.size w w'
set_option maxHeartbeats 16000000 in
set_option maxRecDepth 100000 in
theorem chords_two {n s t R : Nat} (h2 : 2 ≤ n) (h16 : n ≤ 16) (hs : s < 2 ^ n) (ht : t < 2 ^ n) (w : World) (hc : w.cell? ⟨R, 0, none⟩ = some (.int .i64 (s : Int))) (hc1 : w.cell? ⟨R, 1, none⟩ = some (.int .i64 (t : Int))) :
    Calls Tryd.prog 61 #[.int .i64 (n : Int), .slice (some ⟨R, 0, none⟩) 2 2] w fun e w' => ChTwo n s t w e w' := by
  have HF := Aside0.mk (field_at h2 h16)
  have HRD := Aside0.mk (fun (V : World) => read_good h2 h16 (.slice none 0 0) V (fun Bn BF V' _ _ => containsR _ _ _ _ (indexR_nil _ _ _)))
  have HN := Aside0.mk (show 2 ≤ n ∧ n ≤ 16 ∧ s < 2 ^ n ∧ t < 2 ^ n from ⟨h2, h16, hs, ht⟩)
  clear h2 h16 hs ht
  go_enter Tryd.func61, Tryd.ntmps61
  go_wp2_with fail
  refine (HRD.out _).mono ?_
  rintro e w1 ⟨rfl, hb1⟩
  obtain ⟨Q, hQ⟩ : ∃ x, qF n = x := ⟨_, rfl⟩
  obtain ⟨Wf, hWf⟩ : ∃ x, wF n = x := ⟨_, rfl⟩
  have HI := Aside0.mk (show Ch2 n Q Wf s t R w.heap.size w1.heap.size w (w1.alloc (.cells #[.int .i64 (n : Int), .int .i64 (Q : Int), .int .i64 (Wf : Int)] 80)) from by
    have ha : ∀ (W : World) (o : Obj), Below W.heap.size W (W.alloc o) := fun W o => below_alloc (Below.refl _ _) o
    refine ⟨chSt_new (n := n) (q := Q) (f := Wf) (s := s) hc hb1, cell_to (cell_to (cell_to hc1 (ha _ _)) hb1) (ha _ _), World.block_lt_of_cell? _ _ hc, ?_, by simp [World.size_alloc]⟩
    have hz := hb1.size
    rw [World.size_alloc] at hz
    omega)
  have HQ := Aside0.mk (And.intro hQ hWf)
  have hnz : ¬ (n : Int) = 0 := by have := HN.out.1; omega
  have hnzn : ¬ n = 0 := by have := HN.out.1; omega
  simp only [hQ, hWf]
  clear hQ hWf hc hc1 hb1
  go_wp2_with fail
  obtain ⟨W2, hW2⟩ : ∃ W2, (w1.alloc (.cells #[.int .i64 (n : Int), .int .i64 (Q : Int), .int .i64 (Wf : Int)] 80)) = W2 := ⟨_, rfl⟩
  obtain ⟨Bz, hBz⟩ : ∃ B, w.heap.size = B := ⟨_, rfl⟩
  obtain ⟨BF, hBF⟩ : ∃ B, w1.heap.size = B := ⟨_, rfl⟩
  have HI2 := Aside0.mk (show Ch2 n Q Wf s t R Bz BF w W2 by rw [← hW2, ← hBz, ← hBF]; exact HI.out)
  have HBZ := Aside0.mk hBz
  rw [hW2, hBz, hBF]
  clear hW2 hBz hBF HI
  go_loopg [10, 23] 3 (fun gg s10 s23 wr => ∃ k : Nat, s23 = .int .i64 (k : Int) ∧ k + gg = 3 ∧ Aside0 (Ch2 n Q Wf s t R Bz BF w wr) ∧ ((k = 0 ∧ s10 = .slice none 0 0) ∨
    (k = 1 ∧ ∃ (G c : Nat) (v : Value), s10 = .slice (some ⟨G, 0, none⟩) 1 c ∧ Aside0 (wr.ownsRow (Bz + 1) 22 1 (.slice (some ⟨G, 0, none⟩) 1 c) 1 [v] ∧ BF < G ∧ G < wr.heap.size ∧ v.ownBlock ≠ some G ∧ Kd.R (Kd.int .i64) 3 wr (Bz + 1) (fun _ => True) v (wheelL n Q (bitW s)))) ∨
    (k = 2 ∧ ∃ (G c : Nat) (v v2 : Value), s10 = .slice (some ⟨G, 0, none⟩) 2 c ∧ Aside0 (wr.cell? ⟨G, 0, none⟩ = some v ∧ wr.cell? ⟨G, 1, none⟩ = some v2 ∧ Bz < G ∧ Kd.R (Kd.int .i64) 3 wr (Bz + 1) (fun _ => True) v (wheelL n Q (bitW s)) ∧ Kd.R (Kd.int .i64) 3 wr (Bz + 1) (fun _ => True) v2 (wheelL n Q (bitW t))))))
  case atStart => exact ⟨0, rfl, rfl, HI2, .inl ⟨rfl, rfl⟩⟩
  case round =>
    obtain ⟨k, rfl, hkg, HS, hk⟩ := hrel
    have hmf : ∀ (fn : Fn) (first cap : Array Value) (w : World), (Instr.makeFunc fn first cap).run Tryd.prog w = .ok (.func fn first cap) w := fun _ _ _ _ => rfl
    have hn0 : (0 : Int) ≤ (n : Int) := by omega
    rcases hk with ⟨rfl, rfl⟩ | ⟨rfl, G, c, v1, rfl, HG⟩ | ⟨rfl, G, c, v1, v2, rfl, HG⟩
    · have r0 := HS.out.st.r0
      have r1 := HS.out.r1
      have hx0 : ¬ (s : Int) < 0 := by omega
      go_wp2_with fail
      obtain ⟨W3, hW3⟩ : ∃ W3, (wr.alloc (.cells #[.int .i64 (s : Int)] 3)) = W3 := ⟨_, rfl⟩
      obtain ⟨Bs, hBs⟩ : ∃ B, wr.heap.size = B := ⟨_, rfl⟩
      have hS0 : W3.drew.cell? ⟨Bs, 0, none⟩ = some (.int .i64 (s : Int)) := by rw [← hW3, ← hBs]; exact cells_new _ _ _ _
      have hb3 : Below wr.heap.size wr W3 := by rw [← hW3]; exact below_alloc (Below.refl _ _) _
      have H3 := Aside0.mk (And.intro (HS.out.to hb3) hb3)
      rw [hW3, hBs]
      clear hW3 hBs r0 r1 HS hb3
      refine start_ (n := 11) (S := (fun w' => w'.cell? ⟨Bs, 0, none⟩ = some (.int .i64 (s : Int)))) (ds := []) #[false, false, false, false, false, false, false, false, false, false, false] (by kernel_rfl) rfl rfl hS0 (fun _ => ?_)
      refine pure_ (i := 0) (N := some 27) (v := ?_) (a' := ?_) #[true, false, false, false, false, false, false, false, false, false, false] rfl rfl (by kernel_rfl) (fun _ _ _ h => h) (Or.inl ⟨by rfl, ?_⟩) ?_ ?_
      rotate_left
      · intro w'
        go_simp
        with_reducible rfl
      rotate_left
      · simp only [Act.put, List.setIfInBounds_toArray, List.set_cons_zero, List.set_cons_succ, i64_w, i32_w]
        rfl
      refine pure_ (i := 1) (N := some 28) (v := ?_) (a' := ?_) #[true, true, false, false, false, false, false, false, false, false, false] rfl rfl (by kernel_rfl) (fun _ _ _ h => h) (Or.inl ⟨by rfl, ?_⟩) ?_ ?_
      rotate_left
      · intro w'
        go_simp
        with_reducible rfl
      rotate_left
      · simp only [Act.put, List.setIfInBounds_toArray, List.set_cons_zero, List.set_cons_succ, i64_w, i32_w]
        rfl
      refine take_ (i := 2) (N := some 29) (v := ?_) (a' := ?_) #[true, true, true, false, false, false, false, false, false, false, false] rfl rfl (by kernel_rfl) (fun _ _ _ h => h) (Or.inl ⟨by rfl, ?_⟩) hS0 ?_ ?_
      rotate_left
      · rintro w' k0'
        go_simp
        with_reducible rfl
      rotate_left
      · simp only [Act.put, List.setIfInBounds_toArray, List.set_cons_zero, List.set_cons_succ, i64_w, i32_w]
        rfl
      refine pure_ (i := 3) (N := some 30) (v := ?_) (a' := ?_) #[true, true, true, true, false, false, false, false, false, false, false] rfl rfl (by kernel_rfl) (fun _ _ _ h => h) (Or.inl ⟨by rfl, ?_⟩) ?_ ?_
      rotate_left
      · intro w'
        go_simp
        with_reducible rfl
      rotate_left
      · simp only [Act.put, List.setIfInBounds_toArray, List.set_cons_zero, List.set_cons_succ, i64_w, i32_w]
        rfl
      refine pure_ (i := 4) (N := some 31) (v := ?_) (a' := ?_) #[true, true, true, true, true, false, false, false, false, false, false] rfl rfl (by kernel_rfl) (fun _ _ _ h => h) (Or.inl ⟨by rfl, ?_⟩) ?_ ?_
      rotate_left
      · intro w'
        go_simp
        with_reducible rfl
      rotate_left
      · simp only [Act.put, List.setIfInBounds_toArray, List.set_cons_zero, List.set_cons_succ, i64_w, i32_w]
        rfl
      refine pure_ (i := 5) (N := some 32) (v := ?_) (a' := ?_) #[true, true, true, true, true, true, false, false, false, false, false] rfl rfl (by kernel_rfl) (fun _ _ _ h => h) (Or.inl ⟨by rfl, ?_⟩) ?_ ?_
      rotate_left
      · intro w'
        go_simp
        with_reducible rfl
      rotate_left
      · simp only [Act.put, List.setIfInBounds_toArray, List.set_cons_zero, List.set_cons_succ, i64_w, i32_w]
        rfl
      refine take_ (i := 6) (N := some 33) (v := ?_) (a' := ?_) #[true, true, true, true, true, true, true, false, false, false, false] rfl rfl (by kernel_rfl) (fun _ _ _ h => h) (Or.inl ⟨by rfl, ?_⟩) hS0 ?_ ?_
      rotate_left
      · rintro w' k0'
        go_simp
        with_reducible rfl
      rotate_left
      · simp only [Act.put, List.setIfInBounds_toArray, List.set_cons_zero, List.set_cons_succ, i64_w, i32_w]
        rfl
      refine pure_ (i := 7) (N := some 34) (v := ?_) (a' := ?_) #[true, true, true, true, true, true, true, true, false, false, false] rfl rfl (by kernel_rfl) (fun _ _ _ h => h) (Or.inl ⟨by rfl, ?_⟩) ?_ ?_
      rotate_left
      · intro w'
        go_simp
        with_reducible rfl
      rotate_left
      · simp only [Act.put, List.setIfInBounds_toArray, List.set_cons_zero, List.set_cons_succ, i64_w, i32_w]
        rfl
      refine pure_ (i := 8) (N := some 35) (v := ?_) (a' := ?_) #[true, true, true, true, true, true, true, true, true, false, false] rfl rfl (by kernel_rfl) (fun _ _ _ h => h) (Or.inl ⟨by rfl, ?_⟩) ?_ ?_
      rotate_left
      · intro w'
        go_simp
        with_reducible rfl
      rotate_left
      · simp only [Act.put, List.setIfInBounds_toArray, List.set_cons_zero, List.set_cons_succ, i64_w, i32_w]
        rfl
      refine pure_ (i := 9) (N := some 36) (v := ?_) (a' := ?_) #[true, true, true, true, true, true, true, true, true, true, false] rfl rfl (by kernel_rfl) (fun _ _ _ h => h) (Or.inl ⟨by rfl, ?_⟩) ?_ ?_
      rotate_left
      · intro w'
        go_simp
        with_reducible rfl
      rotate_left
      · simp only [Act.put, List.setIfInBounds_toArray, List.set_cons_zero, List.set_cons_succ, i64_w, i32_w]
        rfl
      refine pure_ (i := 10) (N := some 37) (v := ?_) (a' := ?_) #[true, true, true, true, true, true, true, true, true, true, true] rfl rfl (by kernel_rfl) (fun _ _ _ h => h) (Or.inl ⟨by rfl, ?_⟩) ?_ ?_
      rotate_left
      · intro w'
        go_simp
        with_reducible rfl
      rotate_left
      · simp only [Act.put, List.setIfInBounds_toArray, List.set_cons_zero, List.set_cons_succ, i64_w, i32_w]
        rfl
      refine done_ (by kernel_rfl) ?_
      have e1 : decide ((s : Int) < 0) = false := decide_eq_false (by omega)
      have e2 : decide (wrap64 (2 ^ min n 64) ≤ (s : Int)) = false := by
        have h1 := HN.out
        have hp : 2 ^ n ≤ 2 ^ 16 := Nat.pow_le_pow_right (by omega) h1.2.1
        have e3 : (2 : Int) ^ min n 64 = ((2 ^ n : Nat) : Int) := by rw [Nat.min_eq_left (by omega)]; push_cast; rfl
        rw [e3, wrap_id (by omega) (by omega)]
        exact decide_eq_false (by omega)
      simp only [e1, e2, Bool.or_false]
      have f0 := H3.out.1.st.f0
      have f1 := H3.out.1.st.f1
      have f2 := H3.out.1.st.f2
      have HWH := Aside0.mk (wheel_calls n Q Wf 94 (by have := HN.out; omega) (by have := HF.out; rw [← HQ.out.1]; omega) (by have := HF.out; rw [← HQ.out.1]; omega) #[.pointer (some ⟨Bs, 0, none⟩)] (bitW s) (fun k _ => by unfold bitW; split <;> omega) W3.drew (fun args W => enters_ Tryd.func94 (by kernel_rfl) rfl args W) (fun W k hk hb => chords1_calls n s Bs HN.out.2.1 HN.out.2.2.1 W (cell_to hS0 hb) k hk))
      clear e1 e2
      go_wp2_with fail
      refine HWH.out.mono ?_
      rintro e w7 ⟨v, rfl, hr7, hb7⟩
      have hb37 : Below W3.heap.size W3 w7 := below_step (below_drew (Below.refl _ _)) hb7
      have H7 := Aside0.mk (H3.out.1.to hb37)
      obtain ⟨A7, c7, e7⟩ := Kd.R_slice hr7
      rw [wheelL_len] at e7
      have hone : v.oneCell' = true := by rw [e7]; rfl
      have HRV := Aside0.mk (show Kd.R (Kd.int .i64) 3 w7 W3.heap.size (fun _ => True) v (wheelL n Q (bitW s)) from hr7)
      have H37 := Aside0.mk (And.intro hb37 (show Bz + 1 ≤ w7.heap.size from by have := H7.out.bf; have := H7.out.fl; omega))
      subst e7
      clear hr7 hb7 f0 f1 f2 hS0 hb37
      go_wp2_with (first | ((with_reducible refine gate_dst (N := 44) rfl ?_); refine app_own9 (Bz + 1) (.slice none 0 0) 0 [] (World.ownsRow_nil _ _ _ _) H37.out.2 (by omega) (.slice A7 n c7) hone rfl (.tmp 39) (.tmp 43) _ rfl rfl rfl ?_; intro v8 w8 ho8 hg8 ha8; simp only [List.nil_append, Nat.zero_add] at ho8; obtain ⟨G, c, e8, hG8, hge8, hlt8⟩ := own_one9 ho8; subst e8; have HG8 := Aside0.mk (And.intro ho8 (And.intro (show G = w7.heap.size + 1 from by rcases ha8 with h | h; (cases h); (injection h)) (And.intro hlt8 (below_step (below_alloc (Below.refl w7.heap.size w7) _) (show Below (w7.alloc (.cells #[.slice A7 n c7] 22)).heap.size (w7.alloc (.cells #[.slice A7 n c7] 22)) w8 from (Below.refl _ _).grown hg8 (Nat.le_refl _) (fun k e => by cases e)))))); clear ho8 hg8 ha8 hG8 hge8 hlt8))
      go_roundg 2
      case measure => omega
      case rel =>
        refine ⟨1, by go_num, rfl, ⟨H7.out.to HG8.out.2.2.2⟩, .inr (.inl ⟨rfl, G, c, _, rfl, ⟨HG8.out.1, ?_, HG8.out.2.2.1, ?_, ?_⟩⟩)⟩
        · have := H7.out.fl; have := HG8.out.2.1; omega
        · intro h
          have := Kd.R_lt HRV.out G h
          have := HG8.out.2.1
          omega
        · have := H3.out.1.fl; have := H3.out.1.bf
          exact Kd.R_below (Kd.R_lower HRV.out (by omega)) HG8.out.2.2.2
    · have r0 := HS.out.st.r0
      have r1 := HS.out.r1
      have hx0 : ¬ (t : Int) < 0 := by omega
      go_wp2_with fail
      obtain ⟨W3, hW3⟩ : ∃ W3, (wr.alloc (.cells #[.int .i64 (t : Int)] 3)) = W3 := ⟨_, rfl⟩
      obtain ⟨Bs, hBs⟩ : ∃ B, wr.heap.size = B := ⟨_, rfl⟩
      have hS0 : W3.drew.cell? ⟨Bs, 0, none⟩ = some (.int .i64 (t : Int)) := by rw [← hW3, ← hBs]; exact cells_new _ _ _ _
      have hb3 : Below wr.heap.size wr W3 := by rw [← hW3]; exact below_alloc (Below.refl _ _) _
      have H3 := Aside0.mk (And.intro (HS.out.to hb3) hb3)
      rw [hW3, hBs]
      clear hW3 hBs r0 r1 HS hb3
      refine start_ (n := 11) (S := (fun w' => w'.cell? ⟨Bs, 0, none⟩ = some (.int .i64 (t : Int)))) (ds := []) #[false, false, false, false, false, false, false, false, false, false, false] (by kernel_rfl) rfl rfl hS0 (fun _ => ?_)
      refine pure_ (i := 0) (N := some 27) (v := ?_) (a' := ?_) #[true, false, false, false, false, false, false, false, false, false, false] rfl rfl (by kernel_rfl) (fun _ _ _ h => h) (Or.inl ⟨by rfl, ?_⟩) ?_ ?_
      rotate_left
      · intro w'
        go_simp
        with_reducible rfl
      rotate_left
      · simp only [Act.put, List.setIfInBounds_toArray, List.set_cons_zero, List.set_cons_succ, i64_w, i32_w]
        rfl
      refine pure_ (i := 1) (N := some 28) (v := ?_) (a' := ?_) #[true, true, false, false, false, false, false, false, false, false, false] rfl rfl (by kernel_rfl) (fun _ _ _ h => h) (Or.inl ⟨by rfl, ?_⟩) ?_ ?_
      rotate_left
      · intro w'
        go_simp
        with_reducible rfl
      rotate_left
      · simp only [Act.put, List.setIfInBounds_toArray, List.set_cons_zero, List.set_cons_succ, i64_w, i32_w]
        rfl
      refine take_ (i := 2) (N := some 29) (v := ?_) (a' := ?_) #[true, true, true, false, false, false, false, false, false, false, false] rfl rfl (by kernel_rfl) (fun _ _ _ h => h) (Or.inl ⟨by rfl, ?_⟩) hS0 ?_ ?_
      rotate_left
      · rintro w' k0'
        go_simp
        with_reducible rfl
      rotate_left
      · simp only [Act.put, List.setIfInBounds_toArray, List.set_cons_zero, List.set_cons_succ, i64_w, i32_w]
        rfl
      refine pure_ (i := 3) (N := some 30) (v := ?_) (a' := ?_) #[true, true, true, true, false, false, false, false, false, false, false] rfl rfl (by kernel_rfl) (fun _ _ _ h => h) (Or.inl ⟨by rfl, ?_⟩) ?_ ?_
      rotate_left
      · intro w'
        go_simp
        with_reducible rfl
      rotate_left
      · simp only [Act.put, List.setIfInBounds_toArray, List.set_cons_zero, List.set_cons_succ, i64_w, i32_w]
        rfl
      refine pure_ (i := 4) (N := some 31) (v := ?_) (a' := ?_) #[true, true, true, true, true, false, false, false, false, false, false] rfl rfl (by kernel_rfl) (fun _ _ _ h => h) (Or.inl ⟨by rfl, ?_⟩) ?_ ?_
      rotate_left
      · intro w'
        go_simp
        with_reducible rfl
      rotate_left
      · simp only [Act.put, List.setIfInBounds_toArray, List.set_cons_zero, List.set_cons_succ, i64_w, i32_w]
        rfl
      refine pure_ (i := 5) (N := some 32) (v := ?_) (a' := ?_) #[true, true, true, true, true, true, false, false, false, false, false] rfl rfl (by kernel_rfl) (fun _ _ _ h => h) (Or.inl ⟨by rfl, ?_⟩) ?_ ?_
      rotate_left
      · intro w'
        go_simp
        with_reducible rfl
      rotate_left
      · simp only [Act.put, List.setIfInBounds_toArray, List.set_cons_zero, List.set_cons_succ, i64_w, i32_w]
        rfl
      refine take_ (i := 6) (N := some 33) (v := ?_) (a' := ?_) #[true, true, true, true, true, true, true, false, false, false, false] rfl rfl (by kernel_rfl) (fun _ _ _ h => h) (Or.inl ⟨by rfl, ?_⟩) hS0 ?_ ?_
      rotate_left
      · rintro w' k0'
        go_simp
        with_reducible rfl
      rotate_left
      · simp only [Act.put, List.setIfInBounds_toArray, List.set_cons_zero, List.set_cons_succ, i64_w, i32_w]
        rfl
      refine pure_ (i := 7) (N := some 34) (v := ?_) (a' := ?_) #[true, true, true, true, true, true, true, true, false, false, false] rfl rfl (by kernel_rfl) (fun _ _ _ h => h) (Or.inl ⟨by rfl, ?_⟩) ?_ ?_
      rotate_left
      · intro w'
        go_simp
        with_reducible rfl
      rotate_left
      · simp only [Act.put, List.setIfInBounds_toArray, List.set_cons_zero, List.set_cons_succ, i64_w, i32_w]
        rfl
      refine pure_ (i := 8) (N := some 35) (v := ?_) (a' := ?_) #[true, true, true, true, true, true, true, true, true, false, false] rfl rfl (by kernel_rfl) (fun _ _ _ h => h) (Or.inl ⟨by rfl, ?_⟩) ?_ ?_
      rotate_left
      · intro w'
        go_simp
        with_reducible rfl
      rotate_left
      · simp only [Act.put, List.setIfInBounds_toArray, List.set_cons_zero, List.set_cons_succ, i64_w, i32_w]
        rfl
      refine pure_ (i := 9) (N := some 36) (v := ?_) (a' := ?_) #[true, true, true, true, true, true, true, true, true, true, false] rfl rfl (by kernel_rfl) (fun _ _ _ h => h) (Or.inl ⟨by rfl, ?_⟩) ?_ ?_
      rotate_left
      · intro w'
        go_simp
        with_reducible rfl
      rotate_left
      · simp only [Act.put, List.setIfInBounds_toArray, List.set_cons_zero, List.set_cons_succ, i64_w, i32_w]
        rfl
      refine pure_ (i := 10) (N := some 37) (v := ?_) (a' := ?_) #[true, true, true, true, true, true, true, true, true, true, true] rfl rfl (by kernel_rfl) (fun _ _ _ h => h) (Or.inl ⟨by rfl, ?_⟩) ?_ ?_
      rotate_left
      · intro w'
        go_simp
        with_reducible rfl
      rotate_left
      · simp only [Act.put, List.setIfInBounds_toArray, List.set_cons_zero, List.set_cons_succ, i64_w, i32_w]
        rfl
      refine done_ (by kernel_rfl) ?_
      have e1 : decide ((t : Int) < 0) = false := decide_eq_false (by omega)
      have e2 : decide (wrap64 (2 ^ min n 64) ≤ (t : Int)) = false := by
        have h1 := HN.out
        have hp : 2 ^ n ≤ 2 ^ 16 := Nat.pow_le_pow_right (by omega) h1.2.1
        have e3 : (2 : Int) ^ min n 64 = ((2 ^ n : Nat) : Int) := by rw [Nat.min_eq_left (by omega)]; push_cast; rfl
        rw [e3, wrap_id (by omega) (by omega)]
        exact decide_eq_false (by omega)
      simp only [e1, e2, Bool.or_false]
      have f0 := H3.out.1.st.f0
      have f1 := H3.out.1.st.f1
      have f2 := H3.out.1.st.f2
      have HWH := Aside0.mk (wheel_calls n Q Wf 94 (by have := HN.out; omega) (by have := HF.out; rw [← HQ.out.1]; omega) (by have := HF.out; rw [← HQ.out.1]; omega) #[.pointer (some ⟨Bs, 0, none⟩)] (bitW t) (fun k _ => by unfold bitW; split <;> omega) W3.drew (fun args W => enters_ Tryd.func94 (by kernel_rfl) rfl args W) (fun W k hk hb => chords1_calls n t Bs HN.out.2.1 HN.out.2.2.2 W (cell_to hS0 hb) k hk))
      clear e1 e2
      go_wp2_with fail
      refine HWH.out.mono ?_
      rintro e w7 ⟨v, rfl, hr7, hb7⟩
      have hb37 : Below W3.heap.size W3 w7 := below_step (below_drew (Below.refl _ _)) hb7
      have H7 := Aside0.mk (H3.out.1.to hb37)
      obtain ⟨A7, c7, e7⟩ := Kd.R_slice hr7
      rw [wheelL_len] at e7
      have hone : v.oneCell' = true := by rw [e7]; rfl
      have HRV := Aside0.mk (show Kd.R (Kd.int .i64) 3 w7 W3.heap.size (fun _ => True) v (wheelL n Q (bitW t)) from hr7)
      have hbw : Below wr.heap.size wr w7 := below_step H3.out.2 hb37
      have H37 := Aside0.mk (show w7.ownsRow (Bz + 1) 22 1 (.slice (some ⟨G, 0, none⟩) 1 c) 1 [v1] ∧ Kd.R (Kd.int .i64) 3 w7 (Bz + 1) (fun _ => True) v1 (wheelL n Q (bitW s)) ∧ Bz + 1 ≤ w7.heap.size ∧ v.ownBlock ≠ some G from ⟨HG.out.1.kept (grown_of_below hbw) (.inr (fun h => by cases h)), Kd.R_below HG.out.2.2.2.2 hbw, by have := H7.out.bf; have := H7.out.fl; omega, fun h => by have := Kd.R_base hr7 G h; have h1 := HG.out.2.2.1; have h2 := H3.out.2.size; have h3 : W3.heap.size ≤ G := this; omega⟩)
      subst e7
      clear hr7 hb7 f0 f1 f2 hS0 hb37 hbw
      go_wp2_with (first | ((with_reducible refine gate_dst (N := 44) rfl ?_); refine app_own9 (Bz + 1) (.slice (some ⟨G, 0, none⟩) 1 c) 1 [v1] H37.out.1 H37.out.2.2.1 (by omega) (.slice A7 n c7) hone rfl (.tmp 39) (.tmp 43) _ rfl rfl rfl ?_; intro v8 w8 ho8 hg8 ha8; obtain ⟨G8, c8, e8, hge8, hlt8⟩ := ho8.form (by omega); subst e8; have HG8 := Aside0.mk (And.intro ho8 (And.intro hge8 hg8)); clear ho8 hg8 ha8 hge8 hlt8))
      go_roundg 1
      case measure => omega
      case rel =>
        have hg8 : (w7.alloc (.cells #[.slice A7 n c7] 22)).grownBy w8 (some G) := HG8.out.2.2
        have ha : Below w7.heap.size w7 (w7.alloc (.cells #[.slice A7 n c7] 22)) := below_alloc (Below.refl _ _) _
        have c0 := HG8.out.1.cells (g := G8) rfl 0 v1 rfl
        have c1 := HG8.out.1.cells (g := G8) rfl 1 (.slice A7 n c7) rfl
        have := H3.out.1.fl; have := H3.out.1.bf
        refine ⟨2, by go_num, rfl, ⟨(H7.out.to ha).grown hg8 HG.out.2.1⟩, .inr (.inr ⟨rfl, G8, c8, v1, _, rfl, ⟨c0, c1, by have := HG8.out.2.1; omega, R_grown9 (Kd.R_below H37.out.2.1 ha) hg8 (.inr HG.out.2.2.2.1), R_grown9 (Kd.R_below (Kd.R_lower HRV.out (by omega)) ha) hg8 (.inr H37.out.2.2.2)⟩⟩)⟩
    · have f0 := HS.out.st.f0
      have f1 := HS.out.st.f1
      have f2 := HS.out.st.f2
      have z0 := HS.out.st.z 0 (by omega)
      have z1 := HS.out.st.z 1 (by omega)
      have z2 := HS.out.st.z 2 (by omega)
      have y0 := HS.out.st.fr 0
      have y1 := HS.out.st.fr 1
      have y2 := HS.out.st.fr 2
      obtain ⟨d0, d1_, d2_⟩ := fld_set (.int .i64 (n : Int)) (.int .i64 (Q : Int)) (.int .i64 (Wf : Int)) (HS.out.st.z 0 (by omega)) (HS.out.st.z 1 (by omega)) (HS.out.st.z 2 (by omega))
      have HFIN := Aside0.mk (show Below w.heap.size w (((wr.setCell ⟨Bz, 0, none⟩ (.int .i64 (n : Int))).setCell ⟨Bz, 1, none⟩ (.int .i64 (Q : Int))).setCell ⟨Bz, 2, none⟩ (.int .i64 (Wf : Int))) from below_set (below_set (below_set HS.out.st.bl HS.out.st.ge) HS.out.st.ge) HS.out.st.ge)
      have HGF := Aside0.mk (show (((wr.setCell ⟨Bz, 0, none⟩ (.int .i64 (n : Int))).setCell ⟨Bz, 1, none⟩ (.int .i64 (Q : Int))).setCell ⟨Bz, 2, none⟩ (.int .i64 (Wf : Int))).cell? ⟨G, 0, none⟩ = some v1 ∧ (((wr.setCell ⟨Bz, 0, none⟩ (.int .i64 (n : Int))).setCell ⟨Bz, 1, none⟩ (.int .i64 (Q : Int))).setCell ⟨Bz, 2, none⟩ (.int .i64 (Wf : Int))).cell? ⟨G, 1, none⟩ = some v2 ∧ Kd.R (Kd.int .i64) 3 (((wr.setCell ⟨Bz, 0, none⟩ (.int .i64 (n : Int))).setCell ⟨Bz, 1, none⟩ (.int .i64 (Q : Int))).setCell ⟨Bz, 2, none⟩ (.int .i64 (Wf : Int))) w.heap.size (fun _ => True) v1 (wheelL n Q (bitW s)) ∧ Kd.R (Kd.int .i64) 3 (((wr.setCell ⟨Bz, 0, none⟩ (.int .i64 (n : Int))).setCell ⟨Bz, 1, none⟩ (.int .i64 (Q : Int))).setCell ⟨Bz, 2, none⟩ (.int .i64 (Wf : Int))) w.heap.size (fun _ => True) v2 (wheelL n Q (bitW t)) from by
        have h1 := HG.out.2.2.1
        have h3 := HBZ.out
        have far : ∀ (i : Nat) (v : Value), wr.cell? ⟨G, i, none⟩ = some v → (((wr.setCell ⟨Bz, 0, none⟩ (.int .i64 (n : Int))).setCell ⟨Bz, 1, none⟩ (.int .i64 (Q : Int))).setCell ⟨Bz, 2, none⟩ (.int .i64 (Wf : Int))).cell? ⟨G, i, none⟩ = some v := fun i v hv => (World.cell?_setCell_far _ _ _ _ (by simp only [ne_eq]; omega)).trans ((World.cell?_setCell_far _ _ _ _ (by simp only [ne_eq]; omega)).trans ((World.cell?_setCell_far _ _ _ _ (by simp only [ne_eq]; omega)).trans hv))
        have mv : ∀ (v : Value) (xs : List Int), Kd.R (Kd.int .i64) 3 wr (Bz + 1) (fun _ => True) v xs → Kd.R (Kd.int .i64) 3 (((wr.setCell ⟨Bz, 0, none⟩ (.int .i64 (n : Int))).setCell ⟨Bz, 1, none⟩ (.int .i64 (Q : Int))).setCell ⟨Bz, 2, none⟩ (.int .i64 (Wf : Int))) w.heap.size (fun _ => True) v xs := fun v xs hv => by
          refine Kd.R_lower (Kd.R_mono (Kd.R_move (Kd.R_bound hv) (fun i hi => ?_)) (fun _ _ => trivial)) (by omega)
          have hne : i ≠ Bz := by have := hi.2.1; omega
          exact (Below.heap_setCell _ _ _ _ (by simp only [ne_eq]; exact hne)).trans ((Below.heap_setCell _ _ _ _ (by simp only [ne_eq]; exact hne)).trans (Below.heap_setCell _ _ _ _ (by simp only [ne_eq]; exact hne)))
        exact ⟨far _ _ HG.out.1, far _ _ HG.out.2.1, mv _ _ HG.out.2.2.2.1, mv _ _ HG.out.2.2.2.2⟩)
      go_wp2_with fail
      exact bodyPost_ret (results_fld3 rfl _ _ Bz (n : Int) (Q : Int) (Wf : Int) (.slice (some ⟨G, 0, none⟩) 2 c) (.bool true) rfl rfl rfl d0 d1_ d2_) rfl ⟨G, c, v1, v2, by rw [HQ.out.1, HQ.out.2], HGF.out.1, HGF.out.2.1, by rw [HQ.out.1]; exact HGF.out.2.2.1, by rw [HQ.out.1]; exact HGF.out.2.2.2, HFIN.out⟩
/-- the power of a chord -/
def pwrL (n s : Nat) : List Int := wheelL n (qF n) (powV n (specL n (qF n) (wF n) (bitsL n s)))
theorem pwrL_len (n s : Nat) : (pwrL n s).length = n := wheelL_len _ _ _
theorem natsI_bits_len (n s : Nat) : (natsI (bitsL n s)).length = n := by rw [natsI_len, bitsL_len]
set_option maxHeartbeats 16000000 in
set_option maxRecDepth 100000 in
theorem alike_good {n s t : Nat} (h2 : 2 ≤ n) (h16 : n ≤ 16) (hs : s < 2 ^ n) (ht : t < 2 ^ n) (w : World) :
    Calls Tryd.prog 41 #[.int .i64 (n : Int), .int .i64 (s : Int), .int .i64 (t : Int)] w fun e w' => e = .returned (.tuple #[.bool (decide (pwrL n s = pwrL n t)), .int .i64 0]) ∧ Below w.heap.size w w' := by
  have HF := Aside0.mk (field_at h2 h16)
  have HCH := Aside0.mk (chords_two (R := w.heap.size) h2 h16 hs ht (w.alloc (.cells #[.int .i64 (s : Int), .int .i64 (t : Int)] 3)) (cells_new _ _ _ 0) (cells_new _ _ _ 1))
  have HB0 := Aside0.mk (show Below w.heap.size w (w.alloc (.cells #[.int .i64 (s : Int), .int .i64 (t : Int)] 3)) from below_alloc (Below.refl _ _) _)
  have HN := Aside0.mk (And.intro h2 h16)
  obtain ⟨Q, hQ⟩ : ∃ x, qF n = x := ⟨_, rfl⟩
  obtain ⟨Wf, hWf⟩ : ∃ x, wF n = x := ⟨_, rfl⟩
  have HQ := Aside0.mk (show 2 ≤ Q ∧ Q ≤ 1000 ∧ Wf < Q ∧ qF n = Q ∧ wF n = Wf from ⟨by rw [← hQ]; have := HF.out; omega, by rw [← hQ]; have := HF.out; omega, by rw [← hQ, ← hWf]; exact HF.out.2.2.2.1, hQ, hWf⟩)
  obtain ⟨P1, hP1⟩ : ∃ x, pwrL n s = x := ⟨_, rfl⟩
  obtain ⟨P2, hP2⟩ : ∃ x, pwrL n t = x := ⟨_, rfl⟩
  have hP1l : P1.length = n := by rw [← hP1]; exact pwrL_len _ _
  have hP2l : P2.length = n := by rw [← hP2]; exact pwrL_len _ _
  have HPW1 := Aside0.mk (fun (V : World) (A : Option Addr) (c : Nat) (hC : Kd.C (Kd.int .i64) V A n (natsI (bitsL n s))) => show Calls Tryd.prog 76 #[.agg #[.int .i64 (n : Int), .int .i64 (Q : Int), .int .i64 (Wf : Int)], .slice A n c] V (fun e w' => ∃ v, e = .returned v ∧ Kd.R (Kd.int .i64) 3 w' V.heap.size (fun _ => True) v P1 ∧ Below V.heap.size V w') from by
    rw [← hP1]; unfold pwrL; rw [hQ, hWf]
    exact powers_calls n Q Wf (bitsL n s) A c (by omega) h16 HQ.out.1 HQ.out.2.1 HQ.out.2.2.1 (bitsL_len _ _) (bitsL_lt HQ.out.1) V (by rw [natsI_bits_len]; exact hC))
  have HPW2 := Aside0.mk (fun (V : World) (A : Option Addr) (c : Nat) (hC : Kd.C (Kd.int .i64) V A n (natsI (bitsL n t))) => show Calls Tryd.prog 76 #[.agg #[.int .i64 (n : Int), .int .i64 (Q : Int), .int .i64 (Wf : Int)], .slice A n c] V (fun e w' => ∃ v, e = .returned v ∧ Kd.R (Kd.int .i64) 3 w' V.heap.size (fun _ => True) v P2 ∧ Below V.heap.size V w') from by
    rw [← hP2]; unfold pwrL; rw [hQ, hWf]
    exact powers_calls n Q Wf (bitsL n t) A c (by omega) h16 HQ.out.1 HQ.out.2.1 HQ.out.2.2.1 (bitsL_len _ _) (bitsL_lt HQ.out.1) V (by rw [natsI_bits_len]; exact hC))
  obtain ⟨ke, hke⟩ := Ev.rounds (g := fun k => slices_Equal_int_int.f k P1 P2) (Equal_ev P1 P2 (by omega))
  have HEQ := Aside0.mk (fun (V : World) (A B : Option Addr) (c d : Nat) (hA : Kd.C (Kd.int .i64) V A n P1) (hB : Kd.C (Kd.int .i64) V B n P2) (hc : n ≤ c) (hd : n ≤ d) => show Calls Tryd.prog 13 #[.slice A n c, .slice B n d] V (fun e w' => e = .returned (.bool (decide (P1 = P2))) ∧ Drawn0 V w') from by
    have h := slices_Equal_int_int.calls ke A c P1 B d P2 _ V (by rw [hP1l]; exact hA) (by omega) (by rw [hP2l]; exact hB) (by omega) hke
    rw [hP1l, hP2l] at h
    exact h)
  have HPL := Aside0.mk (And.intro hP1l hP2l)
  obtain ⟨dd, hdd⟩ : ∃ x, decide (P1 = P2) = x := ⟨_, rfl⟩
  rw [hP1, hP2, hdd]
  rw [hdd] at HEQ
  unfold ChTwo at HCH
  rw [hQ, hWf] at HCH
  clear h2 h16 hs ht hQ hWf hP1 hP2 hP1l hP2l hke hdd
  go_enter Tryd.func41, Tryd.ntmps41
  go_wp2_with fail
  refine HCH.out.mono ?_
  rintro e w1 ⟨G, c, v1, v2, rfl, hG0, hG1, hR1, hR2, hb⟩
  obtain ⟨A7, c7, e7⟩ := Kd.R_slice hR1
  rw [wheelL_len] at e7
  subst e7
  obtain ⟨A8, c8, e8⟩ := Kd.R_slice hR2
  rw [wheelL_len] at e8
  subst e8
  have H1 := Aside0.mk (show w1.cell? ⟨G, 0, none⟩ = some (.slice A7 n c7) ∧ w1.cell? ⟨G, 1, none⟩ = some (.slice A8 n c8) ∧ Kd.C (Kd.int .i64) w1 A7 n (natsI (bitsL n s)) ∧ Kd.C (Kd.int .i64) w1 A8 n (natsI (bitsL n t)) ∧ Below w.heap.size w w1 from ⟨hG0, hG1, by have h := (Kd.R_reads' hR1).2.2; rw [wheel_bits HQ.out.1, natsI_bits_len] at h; exact h, by have h := (Kd.R_reads' hR2).2.2; rw [wheel_bits HQ.out.1, natsI_bits_len] at h; exact h, below_step HB0.out hb⟩)
  clear hG0 hG1 hR1 hR2 hb
  go_wp2_with fail
  obtain ⟨W2, hW2⟩ : ∃ W2, (w1.alloc (.cells #[.int .i64 (n : Int), .int .i64 (Q : Int), .int .i64 (Wf : Int)] 80)) = W2 := ⟨_, rfl⟩
  obtain ⟨BF, hBF⟩ : ∃ B, w1.heap.size = B := ⟨_, rfl⟩
  have H2 := Aside0.mk (show Kd.C (Kd.int .i64) W2 A7 n (natsI (bitsL n s)) ∧ Kd.C (Kd.int .i64) W2 A8 n (natsI (bitsL n t)) ∧ Below w.heap.size w W2 from by
    rw [← hW2]
    have ha : Below w1.heap.size w1 (w1.alloc (.cells #[.int .i64 (n : Int), .int .i64 (Q : Int), .int .i64 (Wf : Int)] 80)) := below_alloc (Below.refl _ _) _
    exact ⟨Kd.C_below H1.out.2.2.1 ha, Kd.C_below H1.out.2.2.2.1 ha, below_step H1.out.2.2.2.2 ha⟩)
  have hS0 : W2.drew.cell? ⟨G, 0, none⟩ = some (.slice A7 n c7) ∧ W2.drew.cell? ⟨G, 1, none⟩ = some (.slice A8 n c8) ∧ W2.drew.cell? ⟨BF, 0, none⟩ = some (.int .i64 (n : Int)) ∧ W2.drew.cell? ⟨BF, 1, none⟩ = some (.int .i64 (Q : Int)) ∧ W2.drew.cell? ⟨BF, 2, none⟩ = some (.int .i64 (Wf : Int)) := by
    have ha : Below w1.heap.size w1 (w1.alloc (.cells #[.int .i64 (n : Int), .int .i64 (Q : Int), .int .i64 (Wf : Int)] 80)) := below_alloc (Below.refl _ _) _
    have g0 := cell_to H1.out.1 ha
    have g1 := cell_to H1.out.2.1 ha
    rw [← hW2, ← hBF]
    exact ⟨g0, g1, cells_new _ _ _ _, cells_new _ _ _ _, cells_new _ _ _ _⟩
  rw [hW2, hBF]
  clear hW2 hBF H1
  refine start_ (n := 13) (S := (fun w' => w'.cell? ⟨G, 0, none⟩ = some (.slice A7 n c7) ∧ w'.cell? ⟨G, 1, none⟩ = some (.slice A8 n c8) ∧ w'.cell? ⟨BF, 0, none⟩ = some (.int .i64 (n : Int)) ∧ w'.cell? ⟨BF, 1, none⟩ = some (.int .i64 (Q : Int)) ∧ w'.cell? ⟨BF, 2, none⟩ = some (.int .i64 (Wf : Int)))) (ds := []) #[false, false, false, false, false, false, false, false, false, false, false, false, false] (by kernel_rfl) rfl rfl hS0 (fun _ => ?_)
  refine pure_ (i := 1) (N := some 23) (v := ?_) (a' := ?_) #[false, true, false, false, false, false, false, false, false, false, false, false, false] rfl rfl (by kernel_rfl) (fun _ _ _ h => h) (Or.inl ⟨by rfl, ?_⟩) ?_ ?_
  rotate_left
  · intro w'
    go_simp
    with_reducible rfl
  rotate_left
  · simp only [Act.put, List.setIfInBounds_toArray, List.set_cons_zero, List.set_cons_succ, i64_w, i32_w]
    rfl
  refine pure_ (i := 2) (N := some 24) (v := ?_) (a' := ?_) #[false, true, true, false, false, false, false, false, false, false, false, false, false] rfl rfl (by kernel_rfl) (fun _ _ _ h => h) (Or.inl ⟨by rfl, ?_⟩) ?_ ?_
  rotate_left
  · intro w'
    go_simp
    with_reducible rfl
  rotate_left
  · simp only [Act.put, List.setIfInBounds_toArray, List.set_cons_zero, List.set_cons_succ, i64_w, i32_w]
    rfl
  refine pure_ (i := 6) (N := some 28) (v := ?_) (a' := ?_) #[false, true, true, false, false, false, true, false, false, false, false, false, false] rfl rfl (by kernel_rfl) (fun _ _ _ h => h) (Or.inl ⟨by rfl, ?_⟩) ?_ ?_
  rotate_left
  · intro w'
    go_simp
    with_reducible rfl
  rotate_left
  · simp only [Act.put, List.setIfInBounds_toArray, List.set_cons_zero, List.set_cons_succ, i64_w, i32_w]
    rfl
  refine pure_ (i := 7) (N := some 29) (v := ?_) (a' := ?_) #[false, true, true, false, false, false, true, true, false, false, false, false, false] rfl rfl (by kernel_rfl) (fun _ _ _ h => h) (Or.inl ⟨by rfl, ?_⟩) ?_ ?_
  rotate_left
  · intro w'
    go_simp
    with_reducible rfl
  rotate_left
  · simp only [Act.put, List.setIfInBounds_toArray, List.set_cons_zero, List.set_cons_succ, i64_w, i32_w]
    rfl
  refine take_ (i := 0) (N := some 22) (v := ?_) (a' := ?_) #[true, true, true, false, false, false, true, true, false, false, false, false, false] rfl rfl (by kernel_rfl) (fun _ _ _ h => h) (Or.inl ⟨by rfl, ?_⟩) hS0 ?_ ?_
  rotate_left
  · rintro w' ⟨k0', k1', k2', k3', k4'⟩
    go_simp
    with_reducible rfl
  rotate_left
  · simp only [Act.put, List.setIfInBounds_toArray, List.set_cons_zero, List.set_cons_succ, i64_w, i32_w]
    rfl
  refine take_ (i := 3) (N := some 25) (v := ?_) (a' := ?_) #[true, true, true, true, false, false, true, true, false, false, false, false, false] rfl rfl (by kernel_rfl) (fun _ _ _ h => h) (Or.inl ⟨by rfl, ?_⟩) hS0 ?_ ?_
  rotate_left
  · rintro w' ⟨k0', k1', k2', k3', k4'⟩
    go_simp
    with_reducible rfl
  rotate_left
  · simp only [Act.put, List.setIfInBounds_toArray, List.set_cons_zero, List.set_cons_succ, i64_w, i32_w]
    rfl
  refine take_ (i := 5) (N := some 27) (v := ?_) (a' := ?_) #[true, true, true, true, false, true, true, true, false, false, false, false, false] rfl rfl (by kernel_rfl) (fun _ _ _ h => h) (Or.inl ⟨by rfl, ?_⟩) hS0 ?_ ?_
  rotate_left
  · rintro w' ⟨k0', k1', k2', k3', k4'⟩
    go_simp
    with_reducible rfl
  rotate_left
  · simp only [Act.put, List.setIfInBounds_toArray, List.set_cons_zero, List.set_cons_succ, i64_w, i32_w]
    rfl
  refine take_ (i := 8) (N := some 30) (v := ?_) (a' := ?_) #[true, true, true, true, false, true, true, true, true, false, false, false, false] rfl rfl (by kernel_rfl) (fun _ _ _ h => h) (Or.inl ⟨by rfl, ?_⟩) hS0 ?_ ?_
  rotate_left
  · rintro w' ⟨k0', k1', k2', k3', k4'⟩
    go_simp
    with_reducible rfl
  rotate_left
  · simp only [Act.put, List.setIfInBounds_toArray, List.set_cons_zero, List.set_cons_succ, i64_w, i32_w]
    rfl
  have HS9 := Aside0.mk (fun (V : World) (hb : Below W2.heap.size W2 V) => show V.cell? ⟨G, 0, none⟩ = some (.slice A7 n c7) ∧ V.cell? ⟨G, 1, none⟩ = some (.slice A8 n c8) ∧ V.cell? ⟨BF, 0, none⟩ = some (.int .i64 (n : Int)) ∧ V.cell? ⟨BF, 1, none⟩ = some (.int .i64 (Q : Int)) ∧ V.cell? ⟨BF, 2, none⟩ = some (.int .i64 (Wf : Int)) from ⟨cell_to (w := W2) hS0.1 hb, cell_to (w := W2) hS0.2.1 hb, cell_to (w := W2) hS0.2.2.1 hb, cell_to (w := W2) hS0.2.2.2.1 hb, cell_to (w := W2) hS0.2.2.2.2 hb⟩)
  refine one_ (i := 4) (N := some 26) #[true, true, true, true, true, true, true, true, true, false, false, false, false] rfl rfl (by kernel_rfl) (by decide) (fun K hK => ?_)
  refine goes_ Tryd.func76 (by kernel_rfl) rfl #[.agg #[.int .i64 (n : Int), .int .i64 (Q : Int), .int .i64 (Wf : Int)], .slice A7 n c7] (by rfl) rfl rfl (by simp only [List.map_toArray, List.map_cons, List.map_nil]; rfl) ?_
  refine (HPW1.out W2.drew A7 c7 (Kd.C_drew H2.out.1)).mono ?_
  rintro e w5 ⟨v5, rfl, hR5, hb5⟩
  refine ⟨_, rfl, ?_⟩
  have hB5 := below_step (below_drew (Below.refl W2.heap.size W2)) hb5
  obtain ⟨A5, c5, e5⟩ := Kd.R_slice hR5
  subst e5
  rw [HPL.out.1]
  refine hK.out _ _ (HS9.out _ hB5) (fun _ => ?_)
  clear hK K
  refine norm_ (a' := ?_) ?_ ?_
  rotate_left
  · show Act.put _ (some 26) _ = _
    simp only [Act.put, List.setIfInBounds_toArray, List.set_cons_zero, List.set_cons_succ, i64_w, i32_w]
    rfl
  refine one_ (i := 9) (N := some 31) #[true, true, true, true, true, true, true, true, true, true, false, false, false] rfl rfl (by kernel_rfl) (by decide) (fun K hK => ?_)
  refine goes_ Tryd.func76 (by kernel_rfl) rfl #[.agg #[.int .i64 (n : Int), .int .i64 (Q : Int), .int .i64 (Wf : Int)], .slice A8 n c8] (by rfl) rfl rfl (by simp only [List.map_toArray, List.map_cons, List.map_nil]; rfl) ?_
  refine (HPW2.out w5 A8 c8 (Kd.C_below H2.out.2.1 hB5)).mono ?_
  rintro e w6 ⟨v6, rfl, hR6, hb6⟩
  refine ⟨_, rfl, ?_⟩
  have hB6 := below_step hB5 hb6
  obtain ⟨A6, c6, e6⟩ := Kd.R_slice hR6
  subst e6
  have hC5 := Kd.C_below (Kd.R_reads' hR5).2.2 hb6
  have hC6 := (Kd.R_reads' hR6).2.2
  have hl5 := (Kd.R_reads' hR5).2.1
  have hl6 := (Kd.R_reads' hR6).2.1
  rw [HPL.out.1] at hC5 hl5
  rw [HPL.out.2] at hC6 hl6 ⊢
  clear hR5 hR6 hb5 hb6
  refine hK.out _ _ (HS9.out _ hB6) (fun _ => ?_)
  clear hK K
  refine norm_ (a' := ?_) ?_ ?_
  rotate_left
  · show Act.put _ (some 31) _ = _
    simp only [Act.put, List.setIfInBounds_toArray, List.set_cons_zero, List.set_cons_succ, i64_w, i32_w]
    rfl
  refine one_ (i := 10) (N := some 32) #[true, true, true, true, true, true, true, true, true, true, true, false, false] rfl rfl (by kernel_rfl) (by decide) (fun K hK => ?_)
  refine goes_ Tryd.func13 (by kernel_rfl) rfl #[.slice A5 n c5, .slice A6 n c6] (by rfl) rfl rfl (by simp only [List.map_toArray, List.map_cons, List.map_nil]; rfl) ?_
  refine (HEQ.out _ _ _ _ _ hC5 hC6 hl5 hl6).mono ?_
  rintro e w7 ⟨rfl, hd7⟩
  refine ⟨_, rfl, ?_⟩
  have hB7 := below_step hB6 hd7.below
  have HZ := Aside0.mk (below_step H2.out.2.2 hB7)
  refine hK.out _ _ (HS9.out _ hB7) (fun _ => ?_)
  clear hK K
  refine norm_ (a' := ?_) ?_ ?_
  rotate_left
  · show Act.put _ (some 32) _ = _
    simp only [Act.put, List.setIfInBounds_toArray, List.set_cons_zero, List.set_cons_succ, i64_w, i32_w]
    rfl
  refine pure_ (i := 11) (N := some 6) (v := ?_) (a' := ?_) #[true, true, true, true, true, true, true, true, true, true, true, true, false] rfl rfl (by kernel_rfl) (fun _ _ _ h => h) (Or.inl ⟨by rfl, ?_⟩) ?_ ?_
  rotate_left
  · intro w'
    go_simp
    with_reducible rfl
  rotate_left
  · simp only [Act.put, List.setIfInBounds_toArray, List.set_cons_zero, List.set_cons_succ, i64_w, i32_w]
    rfl
  refine pure_ (i := 12) (N := some 7) (v := ?_) (a' := ?_) #[true, true, true, true, true, true, true, true, true, true, true, true, true] rfl rfl (by kernel_rfl) (fun _ _ _ h => h) (Or.inl ⟨by rfl, ?_⟩) ?_ ?_
  rotate_left
  · intro w'
    go_simp
    with_reducible rfl
  rotate_left
  · simp only [Act.put, List.setIfInBounds_toArray, List.set_cons_zero, List.set_cons_succ, i64_w, i32_w]
    rfl
  refine done_ (by kernel_rfl) ?_
  clear hC5 hC6 hl5 hl6 hB5 hB6 hd7 hB7 hS0 HS9
  go_wp2_with fail
  exact bodyPost_ret (results_tmp2 rfl _ _ _) rfl ⟨rfl, HZ.out⟩
def wheels_Alike.f (a0 a1 a2 : Int) : Option (Bool × Int) := if (2 ≤ a0 ∧ a0 ≤ 16) ∧ (0 ≤ a1 ∧ a1 < (2 : Int) ^ a0.toNat) ∧ 0 ≤ a2 ∧ a2 < (2 : Int) ^ a0.toNat then some (decide (pwrL a0.toNat a1.toNat = pwrL a0.toNat a2.toNat), 0) else none
theorem wheels_Alike.calls (a0 a1 a2 : Int) (r1 : Bool) (r2 : Int) (w : World) (h : wheels_Alike.f a0 a1 a2 = some (r1, r2)) :
    Calls Tryd.prog 41 #[.int .i64 a0, .int .i64 a1, .int .i64 a2] w fun e w' => e = .returned (.tuple #[.bool r1, .int .i64 r2]) ∧ Below w.heap.size w w' := by
  unfold wheels_Alike.f at h
  by_cases hd : (2 ≤ a0 ∧ a0 ≤ 16) ∧ (0 ≤ a1 ∧ a1 < (2 : Int) ^ a0.toNat) ∧ 0 ≤ a2 ∧ a2 < (2 : Int) ^ a0.toNat
  · rw [if_pos hd] at h
    injection h with h
    injection h with e1 e2
    subst e1
    subst e2
    obtain ⟨n, rfl⟩ : ∃ n : Nat, a0 = (n : Int) := ⟨a0.toNat, by omega⟩
    obtain ⟨s, rfl⟩ : ∃ s : Nat, a1 = (s : Int) := ⟨a1.toNat, by omega⟩
    obtain ⟨t, rfl⟩ : ∃ t : Nat, a2 = (t : Int) := ⟨a2.toNat, by omega⟩
    rw [Int.toNat_natCast] at hd ⊢
    rw [Int.toNat_natCast, Int.toNat_natCast]
    exact alike_good (by omega) (by omega) (by exact_mod_cast hd.2.1.2) (by exact_mod_cast hd.2.2.2) w
  · rw [if_neg hd] at h
    cases h


end Go.Proofs.YtfpnojcbhbkfaaaDoor.P
namespace Go.Proofs.YtfpnojcbhbkfaaaDoor.P
open Go.RowKit Go.Proofs.YtfpnojcbhbkfaaaDoorW.PrintWords Go.Proofs.YtfpnojcbhbkfaaaDoorW.PrintLast Go.Proofs.YtfpnojcbhbkfaaaDoorW.PrintMore
attribute [local go_sem] max2_int min2_int max_two min_two max_three min_three max_four min_four   -- for this text's walks alone
set_option linter.unusedVariables false
set_option linter.unusedSimpArgs false

def slices_Clone_int_int.f (l0 : List Int) : Option (List Int) := if l0.length < 17592186044416 then some l0 else none
set_option maxHeartbeats 2000000 in
set_option maxRecDepth 100000 in
theorem slices_Clone_int_int.calls (A0 : Option Addr) (c0 : Nat) (l0 : List Int) (r : List Int) (w : World) (hr0 : Kd.C (Kd.int .i64) w A0 l0.length l0) (hc0 : l0.length ≤ c0) (h : slices_Clone_int_int.f l0 = some r) :
    Calls Tryd.prog 10 #[.slice A0 l0.length c0] w fun e w' => ∃ v0_ : Value, e = .returned (v0_) ∧ Kd.R (Kd.int .i64) 3 w' w.heap.size (fun _ => True) v0_ r ∧ Below w.heap.size w w' := by
  unfold slices_Clone_int_int.f at h
  have hl : l0.length < 17592186044416 := by
    rcases Nat.lt_or_ge l0.length 17592186044416 with hl | hl
    · exact hl
    · rw [if_neg (by omega)] at h; cases h
  rw [if_pos hl] at h
  obtain rfl := Option.some.inj h
  have HR0 := Aside0.mk hr0
  clear hr0 h
  have q22 : ∀ (w : World) (a : Option Addr) (n c n' c' : Nat), (binOp .eql 22 (.slice a n c) (.slice none n' c')).run Tryd.prog w = .ok (.bool a.isNone) w := fun w a n c n' c' => Lib.run_eql_slice_nil w _ _ a n c n' c' Tryd.underlying22
  cases A0 with
  | none =>
    have hz : l0 = [] := by
      cases l0 with
      | nil => rfl
      | cons x xs =>
        obtain ⟨ad, e1, _⟩ := Kd.at_int HR0.out 0 (by omega) (by simp only [List.length_cons]; omega)
        cases e1
    subst hz
    go_enter Tryd.func10, Tryd.ntmps10
    go_wp2
    go_ret
    exact ⟨_, rfl, Kd.R_nil _ _ _ _ _, Below.refl _ _⟩
  | some a0 =>
    go_enter Tryd.func10, Tryd.ntmps10
    have HN : Kd.R (Kd.int .i64) 3 (w.alloc (.cells #[] 3)) w.heap.size (fun _ => True) (.slice (some ⟨w.heap.size, 0, none⟩) 0 0) [] :=
      Kd.R_of_own (h1 := fun _ => rfl) (World.ownsRow_lit (base := w.heap.size) (e := 3) (size := 1) w #[] 0 (Nat.le_refl _) (by simp [maxLen]) (by simp)) (fun _ _ => trivial)
    have HNa := Aside0.mk HN
    clear HN
    go_wp2_with (at_builtin; refine Kd.R_append_rows (Kd.int .i64) (w0 := w) w.heap.size rfl (.tmp 5) (.tmp 6) 22 3 (.int .i64 0) 8 rfl Tryd.underlying22 info3 rfl (by decide) (by omega) (.slice (some ⟨w.heap.size, 0, none⟩) 0 0) [] l0 _ _ _ (fun _ => True) (fun _ => False) rfl rfl ?aO ?aR (fun _ _ h => h) (fun _ h => h.elim) ?aF ?aB ?aS ?aL ?_; (case aR => exact Kd.C_below HR0.out (below_alloc (Below.refl _ _) _)); (case aB => exact below_alloc (Below.refl _ _) _); (case aF => exact (fun _ _ => trivial)); (case aO => exact HNa.out); (case aS => simp); (case aL => simp; omega); intro v1 w2 ho hb hg hat; have HO := Aside0.mk ho; have HB := Aside0.mk hb; clear ho hb hg hat; obtain ⟨A9, c9, e9⟩ := Kd.R_slice HO.out; subst e9)
    go_wp2
    go_ret
    exact ⟨_, rfl, HO.out, HB.out⟩

end Go.Proofs.YtfpnojcbhbkfaaaDoor.P
namespace Go.Proofs.YtfpnojcbhbkfaaaDoor.P
/-! Counting bits, as math/bits does it, for numbers of three bytes. Plain Lean. -/
def pop1 (x : Nat) : Nat := (x / 2 &&& 6148914691236517205) + (x &&& 6148914691236517205)
def pop2 (x : Nat) : Nat := (x / 4 &&& 3689348814741910323) + (x &&& 3689348814741910323)
def pop3 (x : Nat) : Nat := (x / 16 + x) &&& 1085102592571150095
def pop4 (x : Nat) : Nat := x + x / 256
def pop5 (x : Nat) : Nat := x + x / 65536
def pop6 (x : Nat) : Nat := x + x / 4294967296
def pop64 (x : Nat) : Nat := pop6 (pop5 (pop4 (pop3 (pop2 (pop1 x))))) &&& 127
/-- how many of the numbers below n are in the set -/
def cntBits (n a : Nat) : Nat := (List.range n).countP a.testBit

theorem lane_and {q b M m : Nat} (hb : b < 256) (hm : m < 256) : (256 * q + b) &&& (256 * M + m) = 256 * (q &&& M) + (b &&& m) := by
  refine Nat.eq_of_testBit_eq fun i => ?_
  have hbm : b &&& m < 256 := Nat.lt_of_le_of_lt Nat.and_le_left hb
  rw [Nat.testBit_and]
  rw [show (256 : Nat) = 2 ^ 8 from rfl] at *
  rw [Nat.testBit_two_pow_mul_add _ hb, Nat.testBit_two_pow_mul_add _ hm, Nat.testBit_two_pow_mul_add _ hbm]
  split <;> rw [Nat.testBit_and]
theorem d1 : ∀ t, t < 2 → ∀ b, b < 256 → (128 * t + b / 2) &&& 85 = (b / 2) &&& 85 := by decide +kernel
theorem d2 : ∀ t, t < 4 → ∀ b, b < 256 → (64 * t + b / 4) &&& 51 = (b / 4) &&& 51 := by decide +kernel
def b1 (b : Nat) : Nat := (b / 2 &&& 85) + (b &&& 85)
def b2 (b : Nat) : Nat := (b / 4 &&& 51) + (b &&& 51)
theorem b1_lt : ∀ b, b < 256 → b1 b < 256 := by decide +kernel
theorem b12 : ∀ b, b < 256 → b2 (b1 b) % 16 ≤ 4 ∧ b2 (b1 b) / 16 ≤ 4 ∧ b2 (b1 b) % 16 + b2 (b1 b) / 16 = cntBits 8 b := by decide +kernel
theorem step1 {q b M : Nat} (hb : b < 256) : ((256 * q + b) / 2 &&& (256 * M + 85)) + ((256 * q + b) &&& (256 * M + 85)) = 256 * ((q / 2 &&& M) + (q &&& M)) + b1 b := by
  have e : (256 * q + b) / 2 = 256 * (q / 2) + (128 * (q % 2) + b / 2) := by omega
  rw [e, lane_and (by omega) (by omega), lane_and hb (by omega), d1 _ (by omega) _ hb]
  unfold b1; omega
theorem step2 {q b M : Nat} (hb : b < 256) : ((256 * q + b) / 4 &&& (256 * M + 51)) + ((256 * q + b) &&& (256 * M + 51)) = 256 * ((q / 4 &&& M) + (q &&& M)) + b2 b := by
  have e : (256 * q + b) / 4 = 256 * (q / 4) + (64 * (q % 4) + b / 4) := by omega
  rw [e, lane_and (by omega) (by omega), lane_and hb (by omega), d2 _ (by omega) _ hb]
  unfold b2; omega
theorem low1 {b M : Nat} (hb : b < 256) : (b / 2 &&& (256 * M + 85)) + (b &&& (256 * M + 85)) = b1 b := by
  have := step1 (q := 0) (M := M) hb
  simpa using this
theorem low2 {b M : Nat} (hb : b < 256) : (b / 4 &&& (256 * M + 51)) + (b &&& (256 * M + 51)) = b2 b := by
  have := step2 (q := 0) (M := M) hb
  simpa using this
theorem pop1_three {x y z : Nat} (hx : x < 256) (hy : y < 256) (hz : z < 256) : pop1 (256 * (256 * z + y) + x) = 256 * (256 * b1 z + b1 y) + b1 x := by
  unfold pop1
  have h1 := step1 (q := 256 * z + y) (M := 24019198012642645) hx
  have h2 := step1 (q := z) (M := 93824992236885) hy
  have h3 := low1 (M := 366503875925) hz
  simp only [Nat.reduceMul, Nat.reduceAdd] at h1 h2 h3
  rw [h1, h2, h3]
theorem pop2_three {x y z : Nat} (hx : x < 256) (hy : y < 256) (hz : z < 256) : pop2 (256 * (256 * z + y) + x) = 256 * (256 * b2 z + b2 y) + b2 x := by
  unfold pop2
  have h1 := step2 (q := 256 * z + y) (M := 14411518807585587) hx
  have h2 := step2 (q := z) (M := 56294995342131) hy
  have h3 := low2 (M := 219902325555) hz
  simp only [Nat.reduceMul, Nat.reduceAdd] at h1 h2 h3
  rw [h1, h2, h3]
theorem and15 (x : Nat) : x &&& 15 = x % 16 := by
  have := Nat.and_two_pow_sub_one_eq_mod x 4
  simpa using this
theorem pop3_three {x y z : Nat} (hx : x % 16 ≤ 4 ∧ x / 16 ≤ 4) (hy : y % 16 ≤ 4 ∧ y / 16 ≤ 4) (hz : z % 16 ≤ 4 ∧ z / 16 ≤ 4) :
    pop3 (256 * (256 * z + y) + x) = 256 * (256 * (z % 16 + z / 16) + (y % 16 + y / 16)) + (x % 16 + x / 16) := by
  unfold pop3
  have e : (256 * (256 * z + y) + x) / 16 + (256 * (256 * z + y) + x) = 256 * (256 * (z + z / 16) + (y + y / 16 + 16 * (z % 16))) + (x + x / 16 + 16 * (y % 16)) := by omega
  have m : (1085102592571150095 : Nat) = 256 * (256 * (256 * 64677154575 + 15) + 15) + 15 := by decide
  rw [e, m, lane_and (by omega) (by omega), lane_and (by omega) (by omega)]
  have m2 : z + z / 16 &&& (256 * 64677154575 + 15) = (z % 16 + z / 16) := by
    have := lane_and (q := 0) (b := z + z / 16) (M := 64677154575) (m := 15) (by omega) (by omega)
    simp only [Nat.mul_zero, Nat.zero_add, Nat.zero_and] at this
    rw [this, and15]; omega
  rw [m2, and15, and15]
  clear e m m2
  have h1 : (x + x / 16 + 16 * (y % 16)) % 16 = x % 16 + x / 16 := by omega
  have h2 : (y + y / 16 + 16 * (z % 16)) % 16 = y % 16 + y / 16 := by omega
  rw [h1, h2]
theorem pop64_three {x y z : Nat} (hx : x < 256) (hy : y < 256) (hz : z < 256) : pop64 (256 * (256 * z + y) + x) = cntBits 8 x + cntBits 8 y + cntBits 8 z := by
  unfold pop64
  have a := b12 x hx; have b := b12 y hy; have c := b12 z hz
  rw [pop1_three hx hy hz, pop2_three (b1_lt x hx) (b1_lt y hy) (b1_lt z hz), pop3_three ⟨a.1, a.2.1⟩ ⟨b.1, b.2.1⟩ ⟨c.1, c.2.1⟩, a.2.2, b.2.2, c.2.2]
  have a8 : cntBits 8 x ≤ 8 := by have := a.2.2; omega
  have b8 : cntBits 8 y ≤ 8 := by have := b.2.2; omega
  have c8 : cntBits 8 z ≤ 8 := by have := c.2.2; omega
  have m : ∀ t : Nat, t &&& 127 = t % 128 := fun t => by
    have := Nat.and_two_pow_sub_one_eq_mod t 7
    simpa using this
  rw [m]
  unfold pop6 pop5 pop4
  generalize cntBits 8 x = p at *
  generalize cntBits 8 y = q at *
  generalize cntBits 8 z = r at *
  clear a b c m hx hy hz
  have e1 : (256 * (256 * r + q) + p) / 256 = 256 * r + q := by omega
  have e2 : (256 * (256 * r + q) + p + (256 * r + q)) / 65536 = r := by omega
  have e3 : (256 * (256 * r + q) + p + (256 * r + q) + r) / 4294967296 = 0 := by omega
  rw [e1, e2, e3]
  omega
theorem cntBits_lane (n b q : Nat) (hb : b < 256) : cntBits (8 + n) (256 * q + b) = cntBits 8 b + cntBits n q := by
  unfold cntBits
  rw [List.range_add, List.countP_append, List.countP_map]
  have e1 : (List.range 8).countP (256 * q + b).testBit = (List.range 8).countP b.testBit := List.countP_congr (fun i hi => by
    rw [show (256 : Nat) = 2 ^ 8 from rfl] at *
    rw [Nat.testBit_two_pow_mul_add _ hb, if_pos (List.mem_range.1 hi)])
  have e2 : (List.range n).countP ((256 * q + b).testBit ∘ fun x => 8 + x) = (List.range n).countP q.testBit := List.countP_congr (fun i _ => by
    rw [show (256 : Nat) = 2 ^ 8 from rfl] at *
    show (2 ^ 8 * q + b).testBit (8 + i) = true ↔ _
    rw [Nat.testBit_two_pow_mul_add _ hb, if_neg (by omega), show 8 + i - 8 = i by omega])
  rw [e1, e2]
theorem cntBits_more {n m a : Nat} (h : a < 2 ^ n) (hm : n ≤ m) : cntBits m a = cntBits n a := by
  obtain ⟨d, rfl⟩ : ∃ d, m = n + d := ⟨m - n, by omega⟩
  unfold cntBits
  rw [List.range_add, List.countP_append, List.countP_map]
  have : (List.range d).countP (a.testBit ∘ fun x => n + x) = 0 := by
    rw [List.countP_eq_zero]
    intro i _
    have : a < 2 ^ (n + i) := Nat.lt_of_lt_of_le h (Nat.pow_le_pow_right (by omega) (by omega))
    simp [Nat.testBit_lt_two_pow this]
  omega
/-- for a set of at most 24 numbers math/bits counts its elements -/
theorem pop64_cnt {n a : Nat} (hn : n ≤ 24) (h : a < 2 ^ n) : pop64 a = cntBits n a := by
  have h24 : a < 2 ^ 24 := Nat.lt_of_lt_of_le h (Nat.pow_le_pow_right (by omega) hn)
  rw [← cntBits_more h hn]
  have e : a = 256 * (256 * (a / 65536) + a / 256 % 256) + a % 256 := by omega
  have h3 : a / 65536 < 256 := by have : (2 : Nat) ^ 24 = 16777216 := by decide
                                  omega
  rw [e, pop64_three (by omega) (by omega) h3, show 24 = 8 + (8 + 8) from rfl, cntBits_lane _ _ _ (by omega), cntBits_lane _ _ _ (by omega)]
  omega
end Go.Proofs.YtfpnojcbhbkfaaaDoor.P
namespace Go.Proofs.YtfpnojcbhbkfaaaDoor.P
/-! Sets of small numbers as natural numbers; pigeonholes. Plain Lean. -/

def orAll (s : Nat) (xs : List Nat) : Nat := xs.foldl (fun s x => s ||| 2 ^ x) s

theorem orAll_nil (s : Nat) : orAll s [] = s := rfl
theorem orAll_cons (s x : Nat) (xs : List Nat) : orAll s (x :: xs) = orAll (s ||| 2 ^ x) xs := rfl
theorem orAll_snoc (s x : Nat) (xs : List Nat) : orAll s (xs ++ [x]) = orAll s xs ||| 2 ^ x := by
  simp [orAll, List.foldl_append]

theorem testBit_or_two_pow (s x i : Nat) : (s ||| 2 ^ x).testBit i = (s.testBit i || decide (x = i)) := by
  rw [Nat.testBit_or, Nat.testBit_two_pow]

theorem testBit_orAll (xs : List Nat) : ∀ (s i : Nat), (orAll s xs).testBit i = (s.testBit i || decide (i ∈ xs)) := by
  induction xs with
  | nil => intro s i; simp [orAll]
  | cons x xs ih =>
    intro s i
    rw [orAll_cons, ih, testBit_or_two_pow, Bool.or_assoc]
    congr 1
    by_cases h : x = i
    · subst h; simp
    · have h' : ¬ i = x := fun e => h e.symm
      simp [h, h']

theorem orAll_lt {m : Nat} (xs : List Nat) (h : ∀ x ∈ xs, x < m) : ∀ s, s < 2 ^ m → orAll s xs < 2 ^ m := by
  induction xs with
  | nil => intro s hs; exact hs
  | cons x xs ih =>
    intro s hs
    rw [orAll_cons]
    refine ih (fun y hy => h y (List.mem_cons_of_mem _ hy)) _ (Nat.or_lt_two_pow hs ?_)
    exact Nat.pow_lt_pow_right (by omega) (h x List.mem_cons_self)

theorem full_iff {n s : Nat} : s = 2 ^ n - 1 ↔ ∀ i, s.testBit i = decide (i < n) := by
  constructor
  · rintro rfl i; exact Nat.testBit_two_pow_sub_one n i
  · intro h; exact Nat.eq_of_testBit_eq fun i => by rw [h, Nat.testBit_two_pow_sub_one]

theorem testBit_full2 (n i : Nat) (hn : 1 ≤ n) : (2 ^ n - 2).testBit i = (decide (i < n) && decide (1 ≤ i)) := by
  obtain ⟨m, rfl⟩ : ∃ m, n = m + 1 := ⟨n - 1, by omega⟩
  have e : 2 ^ (m + 1) - 2 = 2 * (2 ^ m - 1) := by have := Nat.two_pow_pos m; rw [Nat.pow_succ]; omega
  rw [e]
  cases i with
  | zero => simp [Nat.testBit_zero]
  | succ i =>
    rw [Nat.testBit_succ, show 2 * (2 ^ m - 1) / 2 = 2 ^ m - 1 by omega, Nat.testBit_two_pow_sub_one]
    simp

theorem orAll_full {n : Nat} (xs : List Nat) (h : ∀ x ∈ xs, x < n) : orAll 0 xs = 2 ^ n - 1 ↔ ∀ i, i < n → i ∈ xs := by
  rw [full_iff]
  constructor
  · intro hh i hi
    have := hh i
    rw [testBit_orAll] at this
    simpa [hi] using this
  · intro hh i
    rw [testBit_orAll]
    by_cases hi : i < n
    · simp [hi, hh i hi]
    · have : i ∉ xs := fun hm => hi (h i hm)
      simp [hi, this]

theorem orAll_full2 {n : Nat} (hn : 1 ≤ n) (xs : List Nat) (h : ∀ x ∈ xs, 1 ≤ x ∧ x < n) : orAll 0 xs = 2 ^ n - 2 ↔ ∀ i, 1 ≤ i → i < n → i ∈ xs := by
  constructor
  · intro hh i h1 hi
    have h2 : (orAll 0 xs).testBit i = (2 ^ n - 2).testBit i := by rw [hh]
    rw [testBit_orAll, testBit_full2 n i hn] at h2
    simpa [hi, h1] using h2
  · intro hh
    refine Nat.eq_of_testBit_eq fun i => ?_
    rw [testBit_orAll, testBit_full2 n i hn]
    by_cases hi : i < n
    · by_cases h1 : 1 ≤ i
      · simp [hi, h1, hh i h1 hi]
      · have : i ∉ xs := fun hm => h1 (h i hm).1
        simp [h1, this]
    · have : i ∉ xs := fun hm => hi (h i hm).2
      simp [hi, this]

/-! pigeonholes -/
theorem nodup_of_full {n : Nat} {xs : List Nat} (hl : xs.length = n) (hf : ∀ i, i < n → i ∈ xs) : xs.Nodup := by
  rw [List.nodup_iff_count]
  intro a
  refine Nat.not_lt.1 fun hc => ?_
  have ha : a ∈ xs := List.count_pos_iff.1 (by omega)
  have hsub : List.range n ⊆ xs.erase a := by
    intro i hi
    have hm := hf i (List.mem_range.1 hi)
    by_cases e : i = a
    · subst e
      exact List.count_pos_iff.1 (by rw [List.count_erase_self]; omega)
    · exact (List.mem_erase_of_ne e).2 hm
  have := List.Nodup.length_le_of_subset List.nodup_range hsub
  rw [List.length_erase, if_pos ha, List.length_range] at this
  have : 0 < xs.length := List.length_pos_of_mem ha
  omega

theorem full_of_nodup {n : Nat} {xs : List Nat} (hl : xs.length = n) (hr : ∀ x ∈ xs, x < n) (hd : xs.Nodup) : ∀ i, i < n → i ∈ xs := by
  intro i hi
  refine Classical.byContradiction fun hni => ?_
  have hsub : (i :: xs) ⊆ List.range n := by
    intro x hx
    rcases List.mem_cons.1 hx with rfl | hx
    · exact List.mem_range.2 hi
    · exact List.mem_range.2 (hr x hx)
  have := List.Nodup.length_le_of_subset (List.nodup_cons.2 ⟨hni, hd⟩) hsub
  simp at this
  omega
end Go.Proofs.YtfpnojcbhbkfaaaDoor.P
namespace Go.Proofs.YtfpnojcbhbkfaaaDoor.P
/-! Counting on a circle. Plain Lean. -/
/-- A value that is not to be reckoned out by the kernel. -/
noncomputable def Seal {α : Type} (a : α) : α := Classical.choose (⟨a, rfl⟩ : ∃ x, x = a)
theorem Seal_eq {α : Type} (a : α) : Seal a = a := Classical.choose_spec (⟨a, rfl⟩ : ∃ x, x = a)
noncomputable def cnt (n : Nat) (p : Nat → Bool) : Nat := Seal ((List.range n).countP p)
theorem cnt_eq (n : Nat) (p : Nat → Bool) : cnt n p = (List.range n).countP p := Seal_eq _
theorem cnt_congr {n : Nat} {p q : Nat → Bool} (h : ∀ i, i < n → p i = q i) : cnt n p = cnt n q := by
  rw [cnt_eq, cnt_eq]
  exact List.countP_congr (fun i hi => by rw [h i (List.mem_range.1 hi)])
theorem cnt_le (n : Nat) (p : Nat → Bool) : cnt n p ≤ n := by
  have := List.countP_le_length (p := p) (l := List.range n)
  simpa [cnt_eq] using this
theorem map_perm_range {n : Nat} {f : Nat → Nat} (hr : ∀ i, i < n → f i < n) (hi : ∀ i, i < n → ∀ j, j < n → f i = f j → i = j) : ((List.range n).map f).Perm (List.range n) := by
  have hd : ((List.range n).map f).Nodup := by
    rw [List.nodup_iff_pairwise_ne, List.pairwise_map]
    refine List.Pairwise.imp_of_mem ?_ (List.nodup_range (n := n))
    intro a b ha hb hab e
    exact hab (hi a (List.mem_range.1 ha) b (List.mem_range.1 hb) e)
  have hr' : ∀ x ∈ (List.range n).map f, x < n := by
    intro x hx
    obtain ⟨y, hy, rfl⟩ := List.mem_map.1 hx
    exact hr y (List.mem_range.1 hy)
  rw [List.perm_ext_iff_of_nodup hd List.nodup_range]
  intro a
  rw [List.mem_range]
  exact ⟨hr' a, full_of_nodup (by simp) hr' hd a⟩
/-- counting does not care for the order -/
theorem cnt_perm {n : Nat} {f : Nat → Nat} (hr : ∀ i, i < n → f i < n) (hi : ∀ i, i < n → ∀ j, j < n → f i = f j → i = j) (p : Nat → Bool) : cnt n (fun i => p (f i)) = cnt n p := by
  have h := (map_perm_range hr hi).countP_eq p
  rw [List.countP_map] at h
  rw [cnt_eq, cnt_eq]
  exact h
theorem add_mod_inj {n e i j : Nat} (hi : i < n) (hj : j < n) (h : (i + e) % n = (j + e) % n) : i = j := by
  have h1 : (i + e) % n = (i + e % n) % n := by rw [Nat.add_mod_mod]
  have h2 : (j + e) % n = (j + e % n) % n := by rw [Nat.add_mod_mod]
  rw [h1, h2] at h
  have he : e % n < n := Nat.mod_lt _ (by omega)
  generalize e % n = t at *
  rcases Nat.lt_or_ge (i + t) n with a | a <;> rcases Nat.lt_or_ge (j + t) n with b | b
  · rw [Nat.mod_eq_of_lt a, Nat.mod_eq_of_lt b] at h; omega
  · rw [Nat.mod_eq_of_lt a, Nat.mod_eq_sub_mod b, Nat.mod_eq_of_lt (by omega)] at h; omega
  · rw [Nat.mod_eq_of_lt b, Nat.mod_eq_sub_mod a, Nat.mod_eq_of_lt (by omega)] at h; omega
  · rw [Nat.mod_eq_sub_mod b, Nat.mod_eq_sub_mod a, Nat.mod_eq_of_lt (by omega), Nat.mod_eq_of_lt (by omega)] at h; omega
theorem cnt_shift {n : Nat} (e : Nat) (p : Nat → Bool) : cnt n (fun i => p ((i + e) % n)) = cnt n p :=
  cnt_perm (f := fun i => (i + e) % n) (fun i hi => Nat.mod_lt _ (by omega)) (fun _ hi _ hj h => add_mod_inj hi hj h) p
theorem cnt_split {n : Nat} (p q : Nat → Bool) : cnt n p = cnt n (fun i => p i && q i) + cnt n (fun i => p i && !q i) := by
  simp only [cnt_eq]
  generalize List.range n = l
  induction l with
  | nil => rfl
  | cons x xs ih =>
    simp only [List.countP_cons, ih]
    cases p x <;> cases q x <;> simp <;> omega
theorem cnt_not {n : Nat} (p : Nat → Bool) : cnt n (fun i => !p i) = n - cnt n p := by
  have h := cnt_split (n := n) (fun _ => true) p
  have h1 : cnt n (fun _ => true) = n := by simp [cnt_eq]
  simp only [Bool.true_and] at h
  have e : cnt n (fun i => p i) = cnt n p := rfl
  omega
/-- neither of two: all less each, and more by those of both -/
theorem cnt_neither {n : Nat} (p q : Nat → Bool) : cnt n (fun i => !p i && !q i) + cnt n p + cnt n q = n + cnt n (fun i => p i && q i) := by
  have h1 := cnt_split (n := n) (fun i => !p i) q
  have h2 := cnt_split (n := n) q p
  have h3 := cnt_not (n := n) p
  have h4 := cnt_le n p
  have e1 : cnt n (fun i => !p i && q i) = cnt n (fun i => q i && !p i) := cnt_congr (fun i _ => Bool.and_comm _ _)
  have e2 : cnt n (fun i => p i && q i) = cnt n (fun i => q i && p i) := cnt_congr (fun i _ => Bool.and_comm _ _)
  omega

/-! chords: sets of tones -/
noncomputable def chSize (n a : Nat) : Nat := cnt n a.testBit
theorem chSize_bits (n a : Nat) : cntBits n a = chSize n a := by unfold chSize; rw [cnt_eq]; rfl
def moveN (n c j : Nat) : Nat := (c * 2 ^ j ||| c / 2 ^ (n - j)) &&& (2 ^ n - 1)
theorem moveN_lt (n c j : Nat) : moveN n c j < 2 ^ n := by
  unfold moveN
  refine Nat.lt_of_le_of_lt Nat.and_le_right ?_
  have := Nat.two_pow_pos n
  omega
theorem testBit_moveN {n c j i : Nat} (hc : c < 2 ^ n) (hj : j < n) (hi : i < n) : (moveN n c j).testBit i = c.testBit ((i + (n - j)) % n) := by
  unfold moveN
  rw [Nat.testBit_and, Nat.testBit_or, Nat.testBit_two_pow_sub_one, Nat.testBit_mul_two_pow, Nat.testBit_div_two_pow]
  simp only [hi, decide_true, Bool.and_true]
  by_cases h : j ≤ i
  · have e : (i + (n - j)) % n = i - j := by rw [show i + (n - j) = (i - j) + n by omega, Nat.add_mod_right, Nat.mod_eq_of_lt (by omega)]
    have e2 : c.testBit (i + (n - j)) = false := Nat.testBit_lt_two_pow (Nat.lt_of_lt_of_le hc (Nat.pow_le_pow_right (by omega) (by omega)))
    rw [e, e2]
    simp [h]
  · have e : (i + (n - j)) % n = i + (n - j) := Nat.mod_eq_of_lt (by omega)
    rw [e]
    simp [h]
theorem testBit_big {n c i : Nat} (hc : c < 2 ^ n) (hi : n ≤ i) : c.testBit i = false := Nat.testBit_lt_two_pow (Nat.lt_of_lt_of_le hc (Nat.pow_le_pow_right (by omega) hi))
theorem bits_ext {n a b : Nat} (ha : a < 2 ^ n) (hb : b < 2 ^ n) (h : ∀ i, i < n → a.testBit i = b.testBit i) : a = b := by
  refine Nat.eq_of_testBit_eq fun i => ?_
  rcases Nat.lt_or_ge i n with hi | hi
  · exact h i hi
  · rw [testBit_big ha hi, testBit_big hb hi]
/-- by how many tones a chord and one that is moved by d agree -/
noncomputable def common (n a b d : Nat) : Nat := cnt n (fun i => a.testBit i && b.testBit ((i + (n - d)) % n))
theorem chSize_and_move {n a b d : Nat} (hb : b < 2 ^ n) (hd : d < n) : chSize n (a &&& moveN n b d) = common n a b d := by
  unfold chSize common
  exact cnt_congr (fun i hi => by rw [Nat.testBit_and, testBit_moveN hb hd hi])
noncomputable def vecAt (n c d : Nat) : Nat := if 2 * d = n then common n c c d / 2 else common n c c d
noncomputable def vecOf (n c : Nat) : List Int := Seal ((List.range (n / 2)).map (fun i => (vecAt n c (i + 1) : Int)))
theorem vecOf_eq (n c : Nat) : vecOf n c = (List.range (n / 2)).map (fun i => (vecAt n c (i + 1) : Int)) := Seal_eq _
theorem vecOf_length (n c : Nat) : (vecOf n c).length = n / 2 := by simp [vecOf_eq]
theorem vecOf_get {n c i : Nat} (h : i < n / 2) : (vecOf n c)[i]? = some (vecAt n c (i + 1) : Int) := by simp [vecOf_eq, h]
def compl (n c : Nat) : Nat := 2 ^ n - 1 - c
theorem testBit_compl {n c i : Nat} (hc : c < 2 ^ n) (hi : i < n) : (compl n c).testBit i = !c.testBit i := by
  have h : compl n c = 2 ^ n - (c + 1) := by unfold compl; omega
  rw [h, Nat.testBit_two_pow_sub_succ hc]
  simp [hi]
theorem compl_lt (n c : Nat) : compl n c < 2 ^ n := by have := Nat.two_pow_pos n; unfold compl; omega
/-- 'a & (a - 1)' is a without its least number -/
theorem testBit_pred {a : Nat} : ∀ n, a < 2 ^ n → 0 < a → ∃ m, m < n ∧ a.testBit m = true ∧ ∀ j, (a &&& (a - 1)).testBit j = (a.testBit j && !decide (j = m)) := by
  intro n
  induction n generalizing a with
  | zero => intro h h0; simp at h; omega
  | succ n ih =>
    intro h h0
    rcases Nat.mod_two_eq_zero_or_one a with e | e
    · obtain ⟨m, hm, hb, hj⟩ := ih (a := a / 2) (by rw [Nat.pow_succ] at h; omega) (by omega)
      refine ⟨m + 1, by omega, by rw [Nat.testBit_succ]; exact hb, fun j => ?_⟩
      cases j with
      | zero =>
        rw [Nat.testBit_and]
        have : a.testBit 0 = false := by rw [Nat.testBit_zero, e]; rfl
        rw [this]; rfl
      | succ j =>
        have h1 := hj j
        rw [Nat.testBit_and] at h1 ⊢
        rw [Nat.testBit_succ, Nat.testBit_succ, show (a - 1) / 2 = a / 2 - 1 by omega, h1]
        congr 1
        simp
    · refine ⟨0, by omega, by rw [Nat.testBit_zero, e]; rfl, fun j => ?_⟩
      cases j with
      | zero =>
        rw [Nat.testBit_and]
        have : (a - 1).testBit 0 = false := by rw [Nat.testBit_zero, show (a - 1) % 2 = 0 by omega]; rfl
        rw [this]; simp
      | succ j =>
        rw [Nat.testBit_and, Nat.testBit_succ, Nat.testBit_succ, show (a - 1) / 2 = a / 2 by omega, Bool.and_self]
        simp
theorem chSize_drop {n a : Nat} (ha : a < 2 ^ n) (h0 : 0 < a) : chSize n (a &&& (a - 1)) + 1 = chSize n a := by
  obtain ⟨m, hm, hb, hj⟩ := testBit_pred n ha h0
  have h1 := cnt_split (n := n) a.testBit (fun j => !decide (j = m))
  have h2 : cnt n (fun i => a.testBit i && !!decide (i = m)) = 1 := by
    have : cnt n (fun i => a.testBit i && !!decide (i = m)) = (List.range n).count m := by
      rw [cnt_eq, List.count]
      refine List.countP_congr (fun i _ => ?_)
      by_cases e : i = m
      · subst e; simp [hb]
      · simp [e]
    rw [this, List.nodup_range.count, if_pos (List.mem_range.2 hm)]
  have h3 : chSize n (a &&& (a - 1)) = cnt n (fun i => a.testBit i && !decide (i = m)) := by
    unfold chSize
    exact cnt_congr (fun i _ => by rw [hj])
  have h4 : chSize n a = cnt n a.testBit := rfl
  rw [h4, h3, h1, h2]
theorem chSize_cnt (n a : Nat) : chSize n a = cnt n a.testBit := rfl
theorem common_cnt (n a b d : Nat) : common n a b d = cnt n (fun i => a.testBit i && b.testBit ((i + (n - d)) % n)) := rfl
theorem chSize_le (n a : Nat) : chSize n a ≤ n := cnt_le _ _
theorem common_le (n a b d : Nat) : common n a b d ≤ n := cnt_le _ _
theorem vecAt_le (n c d : Nat) : vecAt n c d ≤ n := by
  have : common n c c d ≤ n := cnt_le _ _
  unfold vecAt; split <;> omega
theorem chSize_zero (n : Nat) : chSize n 0 = 0 := by unfold chSize; rw [cnt_eq, List.countP_eq_zero]; intro i _; simp
theorem eq_zero_of_chSize {n a : Nat} (ha : a < 2 ^ n) (h : chSize n a = 0) : a = 0 := by
  refine bits_ext ha (Nat.two_pow_pos n) (fun i hi => ?_)
  unfold chSize at h
  rw [cnt_eq] at h
  have := List.countP_eq_zero.1 h i (List.mem_range.2 hi)
  simp at this
  simp [this]
end Go.Proofs.YtfpnojcbhbkfaaaDoor.P
namespace Go.Proofs.YtfpnojcbhbkfaaaDoor.P
/-! The bits of a set, one after the other, and what becomes of a set whose bits are mapped. Plain Lean. -/
inductive TonesOf : Nat → List Nat → Prop
  | nil : TonesOf 0 []
  | cons {c m : Nat} {xs : List Nat} : c.testBit m = true → (∀ j, (c &&& (c - 1)).testBit j = (c.testBit j && !decide (j = m))) → TonesOf (c &&& (c - 1)) xs → TonesOf c (m :: xs)
theorem and_pred_lt {c : Nat} (h : 0 < c) : c &&& (c - 1) < c := Nat.lt_of_le_of_lt Nat.and_le_right (by omega)
theorem tones_exist {n : Nat} : ∀ c, c < 2 ^ n → ∃ xs, TonesOf c xs := by
  intro c
  induction c using Nat.strongRecOn with
  | _ c ih =>
    intro hc
    rcases Nat.eq_zero_or_pos c with h | h
    · subst h; exact ⟨[], .nil⟩
    · obtain ⟨m, _, h1, h2⟩ := testBit_pred n hc h
      obtain ⟨xs, hx⟩ := ih _ (and_pred_lt h) (Nat.lt_trans (and_pred_lt h) hc)
      exact ⟨m :: xs, .cons h1 h2 hx⟩
theorem tones_mem {c : Nat} {xs : List Nat} (h : TonesOf c xs) : ∀ y, y ∈ xs ↔ c.testBit y = true := by
  induction h with
  | nil => intro y; simp
  | @cons c m xs h1 h2 _ ih =>
    intro y
    rw [List.mem_cons, ih y, h2 y]
    by_cases e : y = m
    · subst e; simp [h1]
    · simp [e]
theorem tones_zero {xs : List Nat} (h : TonesOf 0 xs) : xs = [] := by
  cases h with
  | nil => rfl
  | cons h1 => simp at h1
theorem tones_cons {c : Nat} (hc : 0 < c) {xs : List Nat} (h : TonesOf c xs) : ∃ m r, xs = m :: r ∧ c.testBit m = true ∧ (∀ j, (c &&& (c - 1)).testBit j = (c.testBit j && !decide (j = m))) ∧ TonesOf (c &&& (c - 1)) r := by
  cases h with
  | nil => omega
  | cons h1 h2 h3 => exact ⟨_, _, rfl, h1, h2, h3⟩
/-- the lowest bit stands alone -/
theorem low_alone {c m : Nat} (hc : c < 2 ^ 24) (hp : 0 < c) (h1 : c.testBit m = true) (h2 : ∀ j, (c &&& (c - 1)).testBit j = (c.testBit j && !decide (j = m))) : c &&& (18446744073709551616 - c) = 2 ^ m := by
  refine Nat.eq_of_testBit_eq (fun i => ?_)
  have h64 : (18446744073709551616 : Nat) = 2 ^ 64 := by decide
  have h24 : (2 : Nat) ^ 24 = 16777216 := by decide
  rw [Nat.testBit_and, h64, show 2 ^ 64 - c = 2 ^ 64 - ((c - 1) + 1) by omega, Nat.testBit_two_pow_sub_succ (by omega), Nat.testBit_two_pow]
  have h := h2 i
  rw [Nat.testBit_and] at h
  cases hi : c.testBit i with
  | false =>
    have : m ≠ i := fun e => by rw [← e, h1] at hi; cases hi
    simp [this]
  | true =>
    rw [hi] at h
    simp only [Bool.true_and] at h
    rw [h, Bool.not_not]
    have hi64 : i < 64 := by
      rcases Nat.lt_or_ge i 64 with g | g
      · exact g
      · rw [Nat.testBit_lt_two_pow (Nat.lt_of_lt_of_le hc (Nat.pow_le_pow_right (by omega) (by omega)))] at hi; cases hi
    simp [hi64, eq_comm]
theorem bit_lt {n c m : Nat} (hc : c < 2 ^ n) (h : c.testBit m = true) : m < n := by
  rcases Nat.lt_or_ge m n with g | g
  · exact g
  · rw [testBit_big hc g] at h; cases h
/-- the set of all places to which tones go -/
def orMap (φ : Nat → Nat) (xs : List Nat) : Nat := xs.foldl (fun o x => o ||| 2 ^ (φ x)) 0
theorem orMap_snoc (φ : Nat → Nat) (pre : List Nat) (x : Nat) : orMap φ (pre ++ [x]) = orMap φ pre ||| 2 ^ (φ x) := by simp [orMap]
theorem orMap_lt {φ : Nat → Nat} {n : Nat} (ht : ∀ x, φ x < n) (xs : List Nat) : orMap φ xs < 2 ^ n := by
  have go : ∀ (xs : List Nat) (o : Nat), o < 2 ^ n → xs.foldl (fun o x => o ||| 2 ^ (φ x)) o < 2 ^ n := by
    intro xs
    induction xs with
    | nil => intro o h; exact h
    | cons x xs ih => intro o h; exact ih _ (Nat.or_lt_two_pow h (Nat.pow_lt_pow_right (by omega) (ht x)))
  exact go xs 0 (Nat.two_pow_pos n)
theorem orMap_bit (φ : Nat → Nat) (xs : List Nat) (i : Nat) : (orMap φ xs).testBit i = true ↔ ∃ x ∈ xs, φ x = i := by
  have go : ∀ (xs : List Nat) (o : Nat), (xs.foldl (fun o x => o ||| 2 ^ (φ x)) o).testBit i = true ↔ (o.testBit i = true ∨ ∃ x ∈ xs, φ x = i) := by
    intro xs
    induction xs with
    | nil => intro o; simp
    | cons x xs ih =>
      intro o
      rw [List.foldl_cons, ih, Nat.testBit_or, Nat.testBit_two_pow, Bool.or_eq_true, or_assoc]
      simp
  rw [orMap, go]; simp
/-- a set mapped: which tones it has then -/
noncomputable def imgN (φ : Nat → Nat) (c : Nat) : Nat := open Classical in if h : ∃ xs, TonesOf c xs then orMap φ h.choose else 0
theorem imgN_of {φ : Nat → Nat} {c : Nat} {xs : List Nat} (h : TonesOf c xs) : orMap φ xs = imgN φ c := by
  have h1 : ∃ xs, TonesOf c xs := ⟨xs, h⟩
  unfold imgN
  rw [dif_pos h1]
  refine Nat.eq_of_testBit_eq (fun i => ?_)
  rw [Bool.eq_iff_iff, orMap_bit, orMap_bit]
  simp only [tones_mem h, tones_mem h1.choose_spec]
theorem imgN_bit {φ : Nat → Nat} {n c : Nat} (hc : c < 2 ^ n) (i : Nat) : (imgN φ c).testBit i = true ↔ ∃ x, c.testBit x = true ∧ φ x = i := by
  obtain ⟨xs, h⟩ := tones_exist c hc
  rw [← imgN_of h, orMap_bit]
  simp only [tones_mem h]
theorem imgN_lt {φ : Nat → Nat} {n c m : Nat} (hc : c < 2 ^ m) (ht : ∀ x, φ x < n) : imgN φ c < 2 ^ n := by
  obtain ⟨xs, h⟩ := tones_exist c hc
  rw [← imgN_of h]; exact orMap_lt ht xs
def accTo (φ : Nat → Nat) (c : Nat) : Nat → Nat
  | 0 => 0
  | d + 1 => if c.testBit d then accTo φ c d ||| 2 ^ (φ d) else accTo φ c d
theorem accTo_bit (φ : Nat → Nat) (c i : Nat) : ∀ d, (accTo φ c d).testBit i = true ↔ ∃ x, x < d ∧ c.testBit x = true ∧ φ x = i
  | 0 => by simp [accTo]
  | d + 1 => by
    have h := accTo_bit φ c i d
    simp only [accTo]
    by_cases hb : c.testBit d = true
    · rw [if_pos hb, Nat.testBit_or, Bool.or_eq_true, h, Nat.testBit_two_pow]
      constructor
      · rintro (⟨x, hx, h1, h2⟩ | h1)
        · exact ⟨x, by omega, h1, h2⟩
        · exact ⟨d, by omega, hb, by simpa using h1⟩
      · rintro ⟨x, hx, h1, h2⟩
        by_cases e : x = d
        · subst e; exact .inr (by simpa using h2)
        · exact .inl ⟨x, by omega, h1, h2⟩
    · rw [if_neg hb, h]
      constructor
      · rintro ⟨x, hx, h1, h2⟩; exact ⟨x, by omega, h1, h2⟩
      · rintro ⟨x, hx, h1, h2⟩
        by_cases e : x = d
        · subst e; exact absurd h1 hb
        · exact ⟨x, by omega, h1, h2⟩
theorem accTo_lt {φ : Nat → Nat} {n : Nat} (h : ∀ x, φ x < n) (c : Nat) : ∀ d, accTo φ c d < 2 ^ n
  | 0 => Nat.two_pow_pos n
  | d + 1 => by
    have := accTo_lt h c d
    simp only [accTo]
    split
    · exact Nat.or_lt_two_pow this (Nat.pow_lt_pow_right (by omega) (h d))
    · exact this
theorem accTo_all {φ : Nat → Nat} {n c : Nat} (hc : c < 2 ^ n) : accTo φ c n = imgN φ c := by
  refine Nat.eq_of_testBit_eq (fun i => ?_)
  rw [Bool.eq_iff_iff, accTo_bit, imgN_bit hc]
  exact ⟨fun ⟨x, _, h⟩ => ⟨x, h⟩, fun ⟨x, h⟩ => ⟨x, bit_lt hc h.1, h⟩⟩
end Go.Proofs.YtfpnojcbhbkfaaaDoor.P
