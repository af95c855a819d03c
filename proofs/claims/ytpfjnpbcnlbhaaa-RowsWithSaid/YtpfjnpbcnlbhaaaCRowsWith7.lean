/- Proved here: the Go function sackbutlaw05.RowsWith returns true for every input (its printed form comes to true), whatever its arguments. Conditions: none beyond the row's own reach in memory. -/
import Derived.Test.YtpfjnpbcnlbhaaaRows
import Derived.WalkKit
import Derived.ProofKit
import Derived.OpenShut
import Derived.ShutString
import Derived.ChangeOld
import Derived.Below
import Derived.SizedLaws
import Derived.Test.YtpfjnpbcnlbhaaaWSized
import Derived.Test.YtpfjnpbcnlbhaaaCRowsWith1
import Derived.Test.YtpfjnpbcnlbhaaaCRowsWith2
import Derived.Test.YtpfjnpbcnlbhaaaCRowsWith4
import Derived.Test.YtpfjnpbcnlbhaaaCRowsWith5
import Derived.Test.YtpfjnpbcnlbhaaaCRowsWith6
namespace Go.Proofs.Ytpfjnpbcnlbhaaa.P
open Go.RowKit Go.Proofs.YtpfjnpbcnlbhaaaW.PrintWords Go.Proofs.YtpfjnpbcnlbhaaaW.PrintLast Go.Proofs.YtpfjnpbcnlbhaaaW.PrintMore
attribute [local go_sem] max2_int min2_int max_two min_two max_three min_three max_four min_four   -- for this text's walks alone
set_option linter.unusedVariables false
set_option linter.unusedSimpArgs false

/-! ### sackbutref05_same: function 54 -/
def sackbutref05_same.f (k : Nat) (l0 : List Int) (l1 : List Int) : Option (Bool) := (sackbutref05_less.f k l0 l1).bind fun t1001 => (if t1001 = true then (some false) else ((sackbutref05_less.f k l1 l0).bind fun t1002 => (some (!t1002))))
theorem sackbutref05_same.mono : ∀ a0 a1 k, LeO (sackbutref05_same.f k a0 a1) (sackbutref05_same.f (k + 1) a0 a1) := by
  intro a0 a1 k
  unfold sackbutref05_same.f
  repeat' first
      | (with_reducible exact sackbutref05_less.mono _ _ _)
      | (with_reducible exact LeO.refl _)
      | (with_reducible exact LeO.none _)
      | (with_reducible refine LeO.ite ?_ ?_)
      | (with_reducible refine LeO.bind ?_ (fun _ => ?_))
      | exact sackbutref05_less.mono _ _ _
      | exact LeO.none _
      | refine LeO.ite ?_ ?_
      | refine LeO.bind ?_ (fun _ => ?_)
set_option maxHeartbeats 8000000 in
set_option maxRecDepth 100000 in
theorem sackbutref05_same.calls (k : Nat) (A0 : Option Addr) (c0 : Nat) (l0 : List Int) (A1 : Option Addr) (c1 : Nat) (l1 : List Int) (r : Bool) (w : World) (hr0 : Kd.C (Kd.int .i64) w A0 l0.length l0) (hc0 : l0.length ≤ c0) (hr1 : Kd.C (Kd.int .i64) w A1 l1.length l1) (hc1 : l1.length ≤ c1) (h : sackbutref05_same.f k l0 l1 = some r) :
    Calls Try.prog 54 #[.slice A0 l0.length c0, .slice A1 l1.length c1] w fun e w' => e = .returned (.bool r) ∧ Drawn0 w w' := by
  have HR0 := Aside0.mk hr0
  have HC0 := Aside0.mk hc0
  clear hr0 hc0
  have HR1 := Aside0.mk hr1
  have HC1 := Aside0.mk hc1
  clear hr1 hc1
  have H : ((sackbutref05_less.f k l0 l1).bind fun t1001 => (if t1001 = true then (some false) else ((sackbutref05_less.f k l1 l0).bind fun t1002 => (some (!t1002))))) = some r := h
  clear h
  replace H := Option.bind_eq_some_iff.mp H
  obtain ⟨t1001, A30, H⟩ := H
  replace H : (if t1001 = true then (some false) else ((sackbutref05_less.f k l1 l0).bind fun t1002 => (some (!t1002)))) = some r := H
  have A3 := Aside0.mk A30
  clear A30
  by_cases c4 : t1001 = true
  · subst c4
    have H1 : (some false) = some r := by rw [if_pos rfl] at H; exact H
    clear H
    have H := H1
    clear H1
    obtain rfl := Option.some.inj H
    go_enter Try.func54, Try.ntmps54
    go_wp2_with (first | ((with_reducible refine gate_callee (f := 69) rfl ?_); refine goesL_ (some 7) rfl rfl Try.func69 (by kernel_rfl) rfl #[.slice A0 l0.length c0, .slice A1 l1.length c1] rfl (by (try simp only [List.map_toArray, List.map_cons, List.map_nil]); first | done | rfl | (simp only [List.length_drop, List.length_take]; rfl)) ?_; (with_reducible refine (sackbutref05_less.calls k _ _ l0 _ _ l1 true _ ?side1 ?side2 ?side3 ?side4 A3.out).mono ?_); (case side1 => repeat (first | exact HR0.out | (with_reducible refine Kd.C_alloc ?_ _) | (with_reducible refine Kd.C_drewN ?_ _) | (with_reducible refine Kd.C_drew ?_))); (case side2 => exact HC0.out); (case side3 => repeat (first | exact HR1.out | (with_reducible refine Kd.C_alloc ?_ _) | (with_reducible refine Kd.C_drewN ?_ _) | (with_reducible refine Kd.C_drew ?_))); (case side4 => exact HC1.out); rintro e w' ⟨rfl, ⟨nd, rfl⟩⟩; refine ⟨_, rfl, ?_⟩))
    go_ret
    exact ⟨by first | rfl | (simp; done) | (simp [*]; done), by repeat (first | exact Drawn0.refl _ | apply Drawn0.step)⟩
  · replace c4 := Bool.eq_false_iff.mpr c4
    subst c4
    have H1 : ((sackbutref05_less.f k l1 l0).bind fun t1002 => (some (!t1002))) = some r := by rw [if_neg (show ¬ (false = true) by decide)] at H; exact H
    clear H
    have H := H1
    clear H1
    replace H := Option.bind_eq_some_iff.mp H
    obtain ⟨t1002, A50, H⟩ := H
    replace H : (some (!t1002)) = some r := H
    have A5 := Aside0.mk A50
    clear A50
    obtain rfl := Option.some.inj H
    go_enter Try.func54, Try.ntmps54
    go_wp2_with (first | ((with_reducible refine gate_callee (f := 69) rfl ?_); refine goesL_ (some 7) rfl rfl Try.func69 (by kernel_rfl) rfl #[.slice A0 l0.length c0, .slice A1 l1.length c1] rfl (by (try simp only [List.map_toArray, List.map_cons, List.map_nil]); first | done | rfl | (simp only [List.length_drop, List.length_take]; rfl)) ?_; (with_reducible refine (sackbutref05_less.calls k _ _ l0 _ _ l1 false _ ?side1 ?side2 ?side3 ?side4 A3.out).mono ?_); (case side1 => repeat (first | exact HR0.out | (with_reducible refine Kd.C_alloc ?_ _) | (with_reducible refine Kd.C_drewN ?_ _) | (with_reducible refine Kd.C_drew ?_))); (case side2 => exact HC0.out); (case side3 => repeat (first | exact HR1.out | (with_reducible refine Kd.C_alloc ?_ _) | (with_reducible refine Kd.C_drewN ?_ _) | (with_reducible refine Kd.C_drew ?_))); (case side4 => exact HC1.out); rintro e w' ⟨rfl, ⟨nd, rfl⟩⟩; refine ⟨_, rfl, ?_⟩) | (go_at_call 69; (with_reducible refine (sackbutref05_less.calls k _ _ l1 _ _ l0 t1002 _ ?side1 ?side2 ?side3 ?side4 A5.out).mono ?_); (case side1 => repeat (first | exact HR1.out | (with_reducible refine Kd.C_alloc ?_ _) | (with_reducible refine Kd.C_drewN ?_ _) | (with_reducible refine Kd.C_drew ?_))); (case side2 => exact HC1.out); (case side3 => repeat (first | exact HR0.out | (with_reducible refine Kd.C_alloc ?_ _) | (with_reducible refine Kd.C_drewN ?_ _) | (with_reducible refine Kd.C_drew ?_))); (case side4 => exact HC0.out); rintro e w' ⟨rfl, ⟨nd, rfl⟩⟩))
    go_ret
    exact ⟨by first | rfl | (simp; done) | (simp [*]; done), by repeat (first | exact Drawn0.refl _ | apply Drawn0.step)⟩

end Go.Proofs.Ytpfjnpbcnlbhaaa.P
namespace Go.Proofs.Ytpfjnpbcnlbhaaa.P
open Go.RowKit Go.Proofs.YtpfjnpbcnlbhaaaW.PrintWords Go.Proofs.YtpfjnpbcnlbhaaaW.PrintLast Go.Proofs.YtpfjnpbcnlbhaaaW.PrintMore
attribute [local go_sem] max2_int min2_int max_two min_two max_three min_three max_four min_four   -- for this text's walks alone
set_option linter.unusedVariables false
set_option linter.unusedSimpArgs false

/-! the reference's Form, less, same -/
theorem set_mid {α : Type} (A B : List α) (x v : α) : (A ++ x :: B).set A.length v = A ++ v :: B := by
  rw [List.set_append_right _ _ (Nat.le_refl _)]; simp
theorem refmod_f {a n : Int} (hn : 0 < n) (hb : n < 4611686018427387904) : sackbutref05_mod.f a n = some (a % n) := by
  unfold sackbutref05_mod.f
  rw [if_neg (by omega), tmod_mod hn hb]
theorem tone_w {n kind k x : Int} (hk : 0 ≤ k % n ∧ k % n < 62) (hx : 0 ≤ x ∧ x < 62) (b : Bool) : wrap64 ((if b = true then wrap64 (-x) else x) + k % n) = (if b = true then -x else x) + k % n := by
  cases b
  · simp only [Bool.false_eq_true, if_false]; exact wrap_id (by omega) (by omega)
  · simp only [if_true]; rw [wrap_id (n := -x) (by omega) (by omega)]; exact wrap_id (by omega) (by omega)
def formOut (n kind k : Int) (pre : List Int) (m : Nat) : List Int := if kind / 2 % 2 = 1 then List.replicate m 0 ++ (pre.map (toneOf n kind k)).reverse else pre.map (toneOf n kind k) ++ List.replicate m 0
theorem refForm_loop (n : Nat) (hn : 1 ≤ n) (hn2 : n ≤ 62) (kind k : Int) (hk0 : 0 ≤ kind) (hk3 : kind < 4) (l : List Int) (hl : l.length < 1000) (hr : ∀ x ∈ l, 0 ≤ x ∧ x < 62) : ∀ (xs pre : List Int), l = pre ++ xs →
    Ev (fun q => sackbutref05_Form.l0 q l (n : Int) kind (k % (n : Int)) (formOut n kind k pre xs.length) l (l.length : Int) (pre.length : Int)) (formOf n kind k l) := by
  have hkr : 0 ≤ k % (n : Int) ∧ k % (n : Int) < 62 := ⟨Int.emod_nonneg _ (by omega), by have := Int.emod_lt_of_pos k (show (0 : Int) < n by omega); omega⟩
  intro xs
  induction xs with
  | nil =>
    intro pre h0
    refine Ev.succ ?_
    simp only [sackbutref05_Form.l0, if_neg (mid_end h0)]
    have e : formOut n kind k pre 0 = formOf n kind k l := by
      have : pre = l := by rw [h0]; simp
      subst this
      unfold formOut formOf
      simp
    rw [List.length_nil, e]
    exact Ev.some _
  | cons x xs ih =>
    intro pre h0
    have hx := hr x (by rw [h0]; simp)
    have hlen : l.length = pre.length + (xs.length + 1) := by rw [h0]; simp
    have hw1 : wrap64 (wrap64 ((l.length : Int) - 1) - (pre.length : Int)) = (xs.length : Int) := by
      rw [wrap_id (n := (l.length : Int) - 1) (by omega) (by omega), wrap_id (by omega) (by omega)]; omega
    have hw2 : wrap64 (-x) = -x := wrap_id (by omega) (by omega)
    have hw3 : wrap64 (-x + k % (n : Int)) = -x + k % (n : Int) := wrap_id (by omega) (by omega)
    have hw4 : wrap64 (x + k % (n : Int)) = x + k % (n : Int) := wrap_id (by omega) (by omega)
    have hol : (formOut n kind k pre (xs.length + 1)).length = l.length := by unfold formOut; split <;> (simp; omega)
    have go := ih (pre ++ [x]) (mid_mv h0)
    have hm : ∀ a : Int, sackbutref05_mod.f a (n : Int) = some (a % (n : Int)) := fun a => refmod_f (by omega) (by omega)
    have hk2 : kind / 2 % 2 = 1 ↔ kind ≥ 2 := by omega
    have ht : Int.tmod kind 2 = kind % 2 := Int.tmod_eq_emod_of_nonneg hk0
    refine Ev.succ ?_
    simp only [sackbutref05_Form.l0, List.length_cons, if_pos (mid_lt h0), if_pos (show (0 : Int) ≤ (pre.length : Int) by omega), mid_rd h0, mid_next h0 (by omega), ht, hw1, hw2, hw3, hw4, hm, Option.bind_some, hol, if_pos (show (0 : Int) ≤ (xs.length : Int) by omega), if_pos (show (xs.length : Int) < (l.length : Int) by omega), Int.toNat_natCast]
    have s2 : kind ≥ 2 → ∀ v, v = toneOf n kind k x → (formOut n kind k pre (xs.length + 1)).set xs.length v = formOut n kind k (pre ++ [x]) xs.length := by
      rintro h2 v rfl
      unfold formOut
      rw [if_pos (hk2.2 h2), if_pos (hk2.2 h2), List.replicate_succ', List.append_assoc]
      have := set_mid (List.replicate xs.length (0 : Int)) (pre.map (toneOf n kind k)).reverse 0 (toneOf n kind k x)
      rw [List.length_replicate] at this
      simp [this]
    have s1 : ¬ kind ≥ 2 → ∀ v, v = toneOf n kind k x → (formOut n kind k pre (xs.length + 1)).set pre.length v = formOut n kind k (pre ++ [x]) xs.length := by
      rintro h2 v rfl
      unfold formOut
      rw [if_neg (fun h => h2 (hk2.1 h)), if_neg (fun h => h2 (hk2.1 h)), List.replicate_succ]
      have := set_mid (pre.map (toneOf n kind k)) (List.replicate xs.length (0 : Int)) 0 (toneOf n kind k x)
      rw [List.length_map] at this
      simp [this]
    have t1 : kind % 2 = 1 → (-x + k % (n : Int)) % (n : Int) = toneOf n kind k x := fun h => by unfold toneOf; rw [if_pos h]
    have t0 : ¬ kind % 2 = 1 → (x + k % (n : Int)) % (n : Int) = toneOf n kind k x := fun h => by unfold toneOf; rw [if_neg h]
    refine Ev.ite (fun e1 => ?_) (fun e1 => ?_)
    · refine Ev.ite (fun e2 => ?_) (fun e2 => ?_)
      · rw [s2 e2 _ (t1 e1)]; exact go
      · rw [s1 e2 _ (t1 e1)]; exact go
    · refine Ev.ite (fun e2 => ?_) (fun e2 => ?_)
      · rw [s2 e2 _ (t0 e1)]; exact go
      · rw [s1 e2 _ (t0 e1)]; exact go
theorem refForm_ev (n : Nat) (hn : 1 ≤ n) (hn2 : n ≤ 62) (kind k : Int) (hk0 : 0 ≤ kind) (hk3 : kind < 4) (l : List Int) (hl : l.length < 1000) (hr : ∀ x ∈ l, 0 ≤ x ∧ x < 62) :
    Ev (fun q => sackbutref05_Form.f q l (n : Int) kind k) (formOf n kind k l) := by
  unfold sackbutref05_Form.f
  refine Ev.bind_some (refmod_f (by omega) (by omega)) ?_
  simp only [if_pos (show (0 : Int) ≤ (l.length : Int) by omega), Int.toNat_natCast, if_pos (show l.length ≤ 35184372088832 by omega)]
  have := refForm_loop n hn hn2 kind k hk0 hk3 l hl hr l [] rfl
  have e : formOut n kind k [] l.length = List.replicate l.length 0 := by unfold formOut; split <;> simp
  rw [e] at this
  exact this
def lessL : List Int → List Int → Bool
  | x :: a, y :: b => if x = y then lessL a b else decide (x < y)
  | _, _ => false
theorem less_loop (l1 l0 : List Int) (hlen : l0.length = l1.length) (hb : l0.length < 9223372036854775807) : ∀ (xs ys pre pre1 : List Int), l0 = pre ++ xs → l1 = pre1 ++ ys → pre.length = pre1.length →
    Ev (fun k => sackbutref05_less.l0 k l1 l0 (l0.length : Int) (pre.length : Int)) (lessL xs ys) := by
  intro xs
  induction xs with
  | nil =>
    intro ys pre pre1 h0 h1 hp
    refine Ev.succ ?_
    simp only [sackbutref05_less.l0, if_neg (mid_end h0)]
    cases ys <;> exact Ev.some _
  | cons x xs ih =>
    intro ys pre pre1 h0 h1 hp
    match ys, h1 with
    | [], h1 => exfalso; rw [h0, h1] at hlen; simp at hlen; omega
    | y :: ys, h1 =>
      have hrd : rd l1 (pre.length : Int) = y := by rw [hp]; exact mid_rd h1
      refine Ev.succ ?_
      simp only [sackbutref05_less.l0, if_pos (mid_lt h0), if_pos (show (0 : Int) ≤ (pre.length : Int) by omega), mid_rd h0, hrd, mid_next h0 hb, if_pos (show (pre.length : Int) < (l1.length : Int) by rw [← hlen]; exact mid_lt h0), lessL]
      refine Ev.ite (fun e => ?_) (fun e => ?_)
      · rw [if_pos e]; exact ih ys (pre ++ [x]) (pre1 ++ [y]) (mid_mv h0) (mid_mv h1) (by simp [hp])
      · rw [if_neg e]; exact Ev.some _
theorem less_ev (l0 l1 : List Int) (hlen : l0.length = l1.length) (hb : l0.length < 9223372036854775807) : Ev (fun k => sackbutref05_less.f k l0 l1) (lessL l0 l1) := less_loop l1 l0 hlen hb l0 l1 [] [] rfl rfl rfl
theorem lessL_same : ∀ (a b : List Int), a.length = b.length → ((lessL a b = false ∧ lessL b a = false) ↔ a = b)
  | [], [], _ => by simp [lessL]
  | x :: a, y :: b, h => by
    have ih := lessL_same a b (by simpa using h)
    simp only [lessL, List.cons.injEq]
    by_cases e : x = y
    · subst e; simpa using ih
    · rw [if_neg e, if_neg (fun h => e h.symm)]
      simp only [decide_eq_false_iff_not]
      constructor
      · rintro ⟨h1, h2⟩; exact absurd (by omega) e
      · rintro ⟨h1, _⟩; exact absurd h1 e
  | [], _ :: _, h => by simp at h
  | _ :: _, [], h => by simp at h
theorem same_ev (l0 l1 : List Int) (hlen : l0.length = l1.length) (hb : l0.length < 9223372036854775807) : Ev (fun k => sackbutref05_same.f k l0 l1) (decide (l0 = l1)) := by
  unfold sackbutref05_same.f
  have hs := lessL_same l0 l1 hlen
  refine Ev.bind (less_ev l0 l1 hlen hb) ?_
  cases h1 : lessL l0 l1 with
  | true =>
    have : ¬ l0 = l1 := fun e => by have := (hs.2 e).1; rw [h1] at this; cases this
    simp only [if_true, this, decide_false]
    exact Ev.some _
  | false =>
    simp only [Bool.false_eq_true, if_false]
    refine Ev.bind (less_ev l1 l0 hlen.symm (by omega)) ?_
    cases h2 : lessL l1 l0 with
    | true =>
      have : ¬ l0 = l1 := fun e => by have := (hs.2 e).2; rw [h2] at this; cases this
      simp only [this, decide_false, Bool.not_true]
      exact Ev.some _
    | false =>
      simp only [hs.1 ⟨h1, h2⟩, decide_true, Bool.not_false]
      exact Ev.some _
theorem formOf_length (n kind k : Int) (l : List Int) : (formOf n kind k l).length = l.length := by unfold formOf; split <;> simp

end Go.Proofs.Ytpfjnpbcnlbhaaa.P
namespace Go.Proofs.Ytpfjnpbcnlbhaaa.P
open Go.RowKit Go.Proofs.YtpfjnpbcnlbhaaaW.PrintWords Go.Proofs.YtpfjnpbcnlbhaaaW.PrintLast Go.Proofs.YtpfjnpbcnlbhaaaW.PrintMore
attribute [local go_sem] max2_int min2_int max_two min_two max_three min_three max_four min_four   -- for this text's walks alone
set_option linter.unusedVariables false
set_option linter.unusedSimpArgs false

theorem EqualSelf37_loop (l : List S37) (hl : l.length < 1000) : ∀ (m i : Nat), i + m = l.length → Ev (fun k => slices_Equal_2_int_2_int.l0 k l l (l.length : Int) (i : Int)) true := by
  intro m
  induction m with
  | zero =>
    intro i hi
    refine Ev.succ ?_
    simp only [slices_Equal_2_int_2_int.l0, if_neg (show ¬ (i : Int) < (l.length : Int) by omega)]
    exact Ev.some _
  | succ m ih =>
    intro i hi
    have hw : wrap64 ((i : Int) + 1) = ((i + 1 : Nat) : Int) := by rw [wrap_id (by omega) (by omega)]; omega
    refine Ev.succ ?_
    simp only [slices_Equal_2_int_2_int.l0, if_pos (show (i : Int) < (l.length : Int) by omega), if_pos (show (0 : Int) ≤ (i : Int) by omega), beq_self_eq_true, Bool.not_true, Bool.or_self, Bool.false_eq_true, if_false, hw]
    exact ih (i + 1) (by omega)
theorem EqualSelf37_ev (l : List S37) (hl : l.length < 1000) : Ev (fun k => slices_Equal_2_int_2_int.f k l l) true := by
  unfold slices_Equal_2_int_2_int.f
  simp only [if_true]
  exact EqualSelf37_loop l hl l.length 0 (by omega)
def metTo (a b : List Int) (i : Nat) : Nat := orAll 0 ((a.take i).map Int.toNat) ||| orAll 0 ((b.take i).map Int.toNat)
theorem metTo_succ {a b : List Int} {i : Nat} (ha : i < a.length) (hb : i < b.length) : metTo a b (i + 1) = metTo a b i ||| (2 ^ a[i].toNat ||| 2 ^ b[i].toNat) := by
  unfold metTo
  rw [List.take_succ_eq_append_getElem ha, List.take_succ_eq_append_getElem hb, List.map_append, List.map_append]
  simp only [List.map_cons, List.map_nil]
  rw [orAll_snoc, orAll_snoc]
  apply Nat.eq_of_testBit_eq
  intro j
  simp only [Nat.testBit_or]
  generalize (orAll 0 (List.map Int.toNat (List.take i a))).testBit j = p
  generalize (orAll 0 (List.map Int.toNat (List.take i b))).testBit j = q
  generalize (2 ^ a[i].toNat).testBit j = r
  generalize (2 ^ b[i].toNat).testBit j = s
  cases p <;> cases q <;> cases r <;> cases s <;> rfl
theorem metTo_lt {n : Nat} {a b : List Int} (ha : ∀ x ∈ a, 0 ≤ x ∧ x < n) (hb : ∀ x ∈ b, 0 ≤ x ∧ x < n) (i : Nat) : metTo a b i < 2 ^ n := by
  have h : ∀ c : List Int, (∀ x ∈ c, 0 ≤ x ∧ x < n) → orAll 0 ((c.take i).map Int.toNat) < 2 ^ n := fun c hc => orAll_lt _ (fun x hx => by
    obtain ⟨y, hy, rfl⟩ := List.mem_map.1 hx
    have := hc y (List.mem_of_mem_take hy)
    omega) 0 (Nat.two_pow_pos _)
  exact Nat.or_lt_two_pow (h a ha) (h b hb)
theorem full_w5 {n : Nat} (hn : n ≤ 62) : wrap64 (shl .i64 1 (n : Int) - 1) = ((2 ^ n - 1 : Nat) : Int) := by
  have hp63 := two_pow_lt63 hn
  have hp0 := Nat.two_pow_pos n
  have h63 : (2 : Nat) ^ 63 = 9223372036854775808 := by decide
  rw [shl1_i64 hn]
  generalize 2 ^ n = P at *
  rw [wrap_id (by omega) (by omega)]; omega
theorem or3 {n : Nat} (hn : n ≤ 62) {m p q : Nat} (hm : m < 2 ^ n) (hp : p < n) (hq : q < n) : Go.bits .or .i64 (m : Int) (Go.bits .or .i64 ((2 ^ p : Nat) : Int) ((2 ^ q : Nat) : Int)) = ((m ||| (2 ^ p ||| 2 ^ q) : Nat) : Int) := by
  have hp63 := two_pow_lt63 hn
  have p1 : 2 ^ p < 2 ^ n := Nat.pow_lt_pow_right (by omega) hp
  have p2 : 2 ^ q < 2 ^ n := Nat.pow_lt_pow_right (by omega) hq
  have p3 : 2 ^ p ||| 2 ^ q < 2 ^ n := Nat.or_lt_two_pow p1 p2
  rw [or_i64 (Nat.lt_trans p1 hp63) (Nat.lt_trans p2 hp63), or_i64 (Nat.lt_trans hm hp63) (Nat.lt_trans p3 hp63)]
theorem refWith_l2 (l : List Int) (hr : IsRow l) (hev : l.length % 2 = 0) (out : List S37) (ho : out.length < 1000) (kind k : Nat) (r : List S37)
    (hend : ∀ out', out' = out ++ (if togB l (kind, k) = true then [⟨(kind : Int), (k : Int)⟩] else []) → Ev (fun q => sackbutref05_With.l1 q l out' (kind : Int) (kind : Int) (l.length : Int) (wrap64 ((k : Int) + 1))) r) : ∀ (m i : Nat), i + m = l.length / 2 →
    Ev (fun q => sackbutref05_With.l2 q l out (kind : Int) (k : Int) (formOf l.length kind k l) ((metTo l (formOf l.length kind k l) i : Nat) : Int) (kind : Int) (l.length : Int) (k : Int) ((l.length / 2 : Nat) : Int) (i : Int)) r := by
  have h1 := hr.1; have h2 := hr.2.1
  have hfr := formOf_range (n := l.length) (by omega) kind k l
  have hfl := formOf_length l.length kind k l
  intro m
  induction m with
  | zero =>
    intro i hi
    have hih : i = l.length / 2 := by omega
    have hcond : ¬ (i : Int) < ((l.length / 2 : Nat) : Int) := by omega
    have hol : out.length < 8796093022208 := by omega
    have hw := full_w5 (n := l.length) (by omega)
    refine Ev.succ ?_
    simp only [sackbutref05_With.l2, if_neg hcond, hw, if_pos hol]
    have hmet : metTo l (formOf l.length kind k l) i = half5 (formOf l.length kind k l) ||| half5 l := by
      unfold metTo half5
      rw [hih, hfl, Nat.or_comm]
    have htog : togB l (kind, k) = decide (metTo l (formOf l.length kind k l) i = 2 ^ l.length - 1) := by rw [hmet]; rfl
    refine Ev.ite (fun e => ?_) (fun e => ?_)
    · have hd : togB l (kind, k) = true := by rw [htog]; exact decide_eq_true (Int.ofNat.inj e)
      exact hend _ (by rw [hd]; rfl)
    · have hd : togB l (kind, k) = false := by rw [htog]; exact decide_eq_false (fun e2 => e (congrArg Int.ofNat e2))
      exact hend _ (by rw [hd]; simp)
  | succ m ih =>
    intro i hi
    have hil : i < l.length := by omega
    have hif : i < (formOf l.length kind k l).length := by omega
    have ha := hr.2.2.1 _ (List.getElem_mem hil)
    have hb := hfr _ (List.getElem_mem hif)
    have hms := metTo_succ hil hif
    have hml := metTo_lt hr.2.2.1 hfr i
    have hc1 : (i : Int) < ((l.length / 2 : Nat) : Int) := by omega
    have hc2 : (0 : Int) ≤ (i : Int) := by omega
    have hc3 : (i : Int) < (l.length : Int) := by omega
    have hc4 : (i : Int) < ((formOf l.length kind k l).length : Int) := by omega
    obtain ⟨p, hp⟩ := Int.eq_ofNat_of_zero_le ha.1
    obtain ⟨q, hq⟩ := Int.eq_ofNat_of_zero_le hb.1
    have hpl : p < l.length := by omega
    have hql : q < l.length := by omega
    have hc5 : (0 : Int) ≤ ((p : Nat) : Int) := by omega
    have hc6 : (0 : Int) ≤ ((q : Nat) : Int) := by omega
    have hih := ih (i + 1) (by omega)
    have hs1 := shl1_i64 (x := p) (by omega)
    have hs2 := shl1_i64 (x := q) (by omega)
    have o2 := or3 (n := l.length) (by omega) hml hpl hql
    have hw : wrap64 ((i : Int) + 1) = ((i + 1 : Nat) : Int) := by rw [wrap_id (by omega) (by omega)]; omega
    refine Ev.succ ?_
    simp only [sackbutref05_With.l2, if_pos hc1, if_pos hc2, if_pos hc3, rd_get hil, rd_get hif, hp, hq, if_pos hc5, if_pos hc6, if_pos hc4, hs1, hs2, o2, hw]
    rw [hms, hp, hq, Int.toNat_natCast, Int.toNat_natCast] at hih
    exact hih
theorem withTo_length (l : List Int) (ps : List (Nat × Nat)) : (withTo l ps).length ≤ ps.length := by unfold withTo; rw [List.length_map]; exact List.length_filter_le _ _
theorem pairsTo_length (n kind k : Nat) : (pairsTo n kind k).length = kind * n + k := by
  unfold pairsTo
  rw [List.length_append, List.length_map, List.length_range]
  congr 1
  induction kind with
  | zero => simp
  | succ q ih => rw [List.range_succ, List.flatMap_append, List.length_append, ih]; simp [Nat.succ_mul]
theorem withTo_small {l : List Int} (h : l.length ≤ 10) {kind k : Nat} (hk : kind ≤ 4) (hk2 : k ≤ l.length) : (withTo l (pairsTo l.length kind k)).length < 1000 := by
  have hpl := pairsTo_length l.length kind k
  have hwl := withTo_length l (pairsTo l.length kind k)
  have hkl : kind * l.length ≤ 4 * 10 := Nat.mul_le_mul hk h
  omega
theorem refWith_l1 (l : List Int) (hr : IsRow l) (hev : l.length % 2 = 0) (kind : Nat) (hk : kind < 4) (r : List S37) (hend : Ev (fun q => sackbutref05_With.l0 q l (withTo l (pairsTo l.length (kind + 1) 0)) ((kind + 1 : Nat) : Int)) r) : ∀ (m k : Nat), k + m = l.length →
    Ev (fun q => sackbutref05_With.l1 q l (withTo l (pairsTo l.length kind k)) (kind : Int) (kind : Int) (l.length : Int) (k : Int)) r := by
  have h1 := hr.1; have h2 := hr.2.1
  intro m
  induction m with
  | zero =>
    intro k hkm
    have hkn : k = l.length := by omega
    have hw : wrap64 ((kind : Int) + 1) = ((kind + 1 : Nat) : Int) := by rw [wrap_id (by omega) (by omega)]; omega
    refine Ev.succ ?_
    simp only [sackbutref05_With.l1, if_neg (show ¬ (k : Int) < (l.length : Int) by omega), hw]
    rw [hkn, pairsTo_kind]
    exact hend
  | succ m ih =>
    intro k hkm
    have hw : wrap64 ((k : Int) + 1) = ((k + 1 : Nat) : Int) := by rw [wrap_id (by omega) (by omega)]; omega
    have hw2 : wrap64 ((l.length : Int) / 2) = ((l.length / 2 : Nat) : Int) := by rw [wrap_id (by omega) (by omega)]; omega
    have hsm := withTo_small h2 (kind := kind) (k := k) (Nat.le_of_lt hk) (by omega)
    refine Ev.succ ?_
    simp only [sackbutref05_With.l1, if_pos (show (k : Int) < (l.length : Int) by omega), hw2]
    refine Ev.bind (refForm_ev l.length (by omega) (by omega) kind k (by omega) (by omega) l (by omega) (row_small hr)) ?_
    have := refWith_l2 l hr hev (withTo l (pairsTo l.length kind k)) hsm kind k r (fun out' ho => by
      rw [hw]
      have e : out' = withTo l (pairsTo l.length kind (k + 1)) := by rw [ho, ← pairsTo_next, withTo_snoc]
      rw [e]
      exact ih (k + 1) (by omega)) (l.length / 2) 0 (by omega)
    have e0 : metTo l (formOf l.length kind k l) 0 = 0 := by simp [metTo, orAll]
    rw [e0] at this
    exact this
theorem refWith_l0 (l : List Int) (hr : IsRow l) (hev : l.length % 2 = 0) : ∀ (m kind : Nat), kind + m = 4 → Ev (fun q => sackbutref05_With.l0 q l (withTo l (pairsTo l.length kind 0)) (kind : Int)) (withTo l (formPairs l.length)) := by
  intro m
  induction m with
  | zero =>
    intro kind hk
    have : kind = 4 := by omega
    subst this
    refine Ev.succ ?_
    simp only [sackbutref05_With.l0, if_neg (show ¬ ((4 : Nat) : Int) < 4 by decide)]
    exact Ev.some _
  | succ m ih =>
    intro kind hk
    refine Ev.succ ?_
    simp only [sackbutref05_With.l0, if_pos (show (kind : Int) < 4 by omega)]
    exact refWith_l1 l hr hev kind (by omega) _ (ih (kind + 1) (by omega)) l.length 0 (by omega)
theorem refWith_ev (l : List Int) (hr : IsRow l) (hev : l.length % 2 = 0) : Ev (fun q => sackbutref05_With.f q l) (withTo l (formPairs l.length)) := by
  unfold sackbutref05_With.f
  exact refWith_l0 l hr hev 4 0 (by omega)
theorem with_f (l : List Int) : rows_With.f l = some (if IsRow l ∧ l.length % 2 = 0 then (withTo l (formPairs l.length), 0) else ([], 2)) := by
  unfold rows_With.f; split <;> rfl
theorem RowsWith : sackbutlaw05_RowsWith.Pure := by
  intro l _ _ _
  refine Ev.rounds (g := fun k => sackbutlaw05_RowsWith.f k l) ?_
  unfold sackbutlaw05_RowsWith.f
  refine Ev.bind_some (list_f l) ?_
  refine Ev.bind_some (with_f _) ?_
  refine Ev.bind (Row_ev l) ?_
  have bad : Ev (fun k => sackbutlaw05_RowsWith.j0 k l [] 2 true) true := by
    refine Ev.succ ?_
    simp only [sackbutlaw05_RowsWith.j0, if_true, List.length_nil, Int.natCast_zero]
    exact Ev.bind awake_ev (Ev.some _)
  by_cases h : IsRow l
  · have h1 := h.1; have h2 := h.2.1
    simp only [isRow_take, h, decide_true, if_true, row_take h, true_and]
    by_cases hev : l.length % 2 = 0
    · have hne : ((l.length : Int) % 2 == 1) = false := beq_eq_false_iff_ne.2 (by omega)
      simp only [hev, if_true, hne]
      refine Ev.succ ?_
      simp only [sackbutlaw05_RowsWith.j0, Bool.false_eq_true, if_false]
      refine Ev.bind (refWith_ev l h hev) ?_
      refine Ev.bind (EqualSelf37_ev _ (withTo_small h2 (kind := 4) (k := 0) (by omega) (by omega))) ?_
      simp only [if_true]
      exact Ev.bind awake_ev (Ev.some _)
    · have hne : ((l.length : Int) % 2 == 1) = true := beq_iff_eq.2 (by omega)
      simp only [hev, if_false, hne]
      exact bad
  · simp only [isRow_take, h, decide_false, Bool.false_eq_true, if_false, false_and]
    exact bad

end Go.Proofs.Ytpfjnpbcnlbhaaa.P
namespace Go.Proofs.Ytpfjnpbcnlbhaaa.Pure
theorem RowsWith : Go.Proofs.Ytpfjnpbcnlbhaaa.P.sackbutlaw05_RowsWith.Pure := Go.Proofs.Ytpfjnpbcnlbhaaa.P.RowsWith
end Go.Proofs.Ytpfjnpbcnlbhaaa.Pure
namespace Go.Proofs.Ytpfjnpbcnlbhaaa.rowsWith
open Go.ChangeShapes Go.WideShapes Go.ChangeAt Go.RowKit
open Go.ChangeMaps (open_string shut_string)
set_option linter.unusedVariables false
theorem own : ownKnob Try.prog.godebug = none := by kernel_rfl
theorem laidOut : laidOutB Try.prog = true := by kernel_rfl
def IsRow (k : IntKind) (w : World) (a : Option Addr) (len cap : Nat) (zs : List Int) : Prop :=
  (a = none ∧ len = 0 ∧ cap = 0 ∧ zs = []) ∨
  ∃ x, a = some x ∧ len ≤ cap ∧ cap ≤ maxLen ∧ zs.length = cap ∧ (∀ i, i < zs.length → w.cell? (x.add i) = some (.int k (zs.getD i 0))) ∧ ∀ n ∈ zs, (Lit.int k n).wf = true
set_option maxRecDepth 100000 in
theorem lifted (os : Os) (started : os.Started) (H : Type) (enc : TypeId × Value → H) :
    ReturnsInHanded {} Try.checked os 6 .any (Rows.rowsWithSpec.pre6 enc Try.prog Try.f6 Rows.rowsWithRow.domain false) (Rows.rowsWithSpec.post enc Try.prog Try.f6 false true false false) := by
  refine returnsInHanded_of_change_sized (C := Try.checked) own started (by kernel_rfl) Try.func6
    (ChangeSpec.witness6 (enc := enc) (C := Try.checked) false ⟨#[], #[.slice none 0 0], []⟩ 8 (by kernel_rfl) (by kernel_rfl) (by kernel_rfl) (by kernel_rfl)) ?_
  intro W base args ds gs before hval0 hW hcnd hsz0 _
  have hsz : (DataW.weightsEach Try.prog (Try.f6.params.toList ++ Rows.rowsWithSpec.plain.varTypes Try.prog) (ds ++ gs)).all (· ≤ reachBytes) = true := hsz0
  have hval : ∀ (j : Nat) t v, Try.f6.params[j]? = some t → args[j]? = some v → Value.okWide Try.prog W .any base t v := hval0
  have hW' := hW
  obtain ⟨p, q, hA0, hV, rfl, hfz, hnd⟩ := hW
  have hA : DataW.TrodAll enc Try.prog W 0 (fun _ => true) true Try.f6.params.toList args.toList ds p := hA0
  rw [Try.params6] at hA hval hsz
  obtain ⟨v0, vs0, d0, ds0, p0, q0, hargs, rfl, rfl, h0, r0⟩ := trodAll_cons hA
  obtain ⟨rfl, rfl, rfl⟩ := trodAll_nil r0
  obtain rfl : args = #[v0] := by cases args; simp_all
  obtain ⟨rfl, rfl⟩ := trodVars_none hV
  obtain ⟨a0, len0, cap0, rfl⟩ := okWide_slice Try.underlying22 (hval 0 22 v0 rfl rfl)
  have k0 := h0
  have lt0 : ∀ x ∈ p0, x.block < W.heap.size := by obtain ⟨m, hm⟩ := k0; exact DataW.trod_lt m _ _ _ hm
  obtain ⟨z0, w0⟩ : ∃ zs, IsRow .i64 W a0 len0 cap0 zs := by
    obtain ⟨fuel, hf⟩ := h0
    rcases open_ints Try.underlying22 Try.underlying3 (by kernel_rfl) hf with ⟨hcs, _⟩ | ⟨x, l, c, zs, hcs, _, hl, hm, hz, _, hcell, hwz⟩
    · simp [Value.cells] at hcs
      obtain ⟨rfl, rfl, rfl⟩ := hcs
      exact ⟨[], .inl ⟨rfl, rfl, rfl, rfl⟩⟩
    · simp [Value.cells] at hcs
      obtain ⟨rfl, rfl, rfl⟩ := hcs
      exact ⟨zs, .inr ⟨_, rfl, hl, hm, by simpa using hz, hcell, hwz⟩⟩
  have y0 : len0 * 8 ≤ 140737488351232 := Go.Proofs.YtpfjnpbcnlbhaaaW.PrintWords.sized_ints hsz (j := 0) (t := 22) rfl rfl Try.underlying22 Try.underlying3 (by kernel_rfl) (by kernel_rfl) h0
  clear hA0 hval0 hsz0 hsz
  refine (P.sackbutlaw05_RowsWith.walk Pure.RowsWith a0 len0 cap0 z0 W w0 y0).mono fun e W' ⟨he, bel⟩ => ?_
  subst he
  exact ⟨_, rfl, _, _, _, [], _, [], hW', trodAll_mk1 (shut_bool Try.underlying4 _), (trodAll_cons_mk (Below.trod laidOut (by kernel_rfl) (of_decide_eq_true (by kernel_rfl)) k0 bel lt0) trodAll_mk0), rfl, bel.frame _, fun h => by cases h⟩
theorem over : Rows.rowsWithRow.holds Try.pinned (OpenSpec.ofChange Rows.rowsWithSpec) :=
  OpenClaim.holds_of_wide 6 Try.f6 rfl rfl rfl rfl rfl rfl rfl ⟨rfl, rfl, rfl, rfl, rfl⟩ rfl rfl rfl rfl rfl (by kernel_rfl) Try.func6 (by kernel_rfl)
    (of_decide_eq_true (by kernel_rfl)) (by unfold Func.isWrapper; first | (rw [if_pos (by decide +kernel)]; kernel_rfl) | (rw [if_neg (by decide +kernel)]; exact ⟨rfl, rfl⟩))
    (fun os started H enc _ => lifted os started H enc)
theorem proved : Rows.RowsWithSaid := over
#print axioms proved
end Go.Proofs.Ytpfjnpbcnlbhaaa.rowsWith
namespace Go.Proofs.Ytpfjnpbcnlbhaaa
/-- The row, under a short name, for the claim. -/
theorem rowsWith_holds : Rows.RowsWithSaid := rowsWith.proved
end Go.Proofs.Ytpfjnpbcnlbhaaa
