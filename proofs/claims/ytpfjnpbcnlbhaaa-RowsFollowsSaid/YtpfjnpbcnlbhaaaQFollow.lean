/- A part of a proof that a law's Go function returns true for every input, laid by this session's program mp.py (which drives the kit's print). Conditions: as each theorem states them. -/
import Derived.Test.YtpfjnpbcnlbhaaaP0
import Derived.Test.YtpfjnpbcnlbhaaaPf23
import Derived.Test.YtpfjnpbcnlbhaaaPf24
import Derived.Test.YtpfjnpbcnlbhaaaPf49
import Derived.Test.YtpfjnpbcnlbhaaaQBase
import Derived.Test.YtpfjnpbcnlbhaaaQRows
import Derived.Test.YtpfjnpbcnlbhaaaQSlices
namespace Go.Proofs.Ytpfjnpbcnlbhaaa.P
open Go.RowKit Go.Proofs.YtpfjnpbcnlbhaaaW.PrintWords Go.Proofs.YtpfjnpbcnlbhaaaW.PrintLast Go.Proofs.YtpfjnpbcnlbhaaaW.PrintMore
attribute [local go_sem] max2_int min2_int max_two min_two max_three min_three max_four min_four   -- for this text's walks alone
set_option linter.unusedVariables false
set_option linter.unusedSimpArgs false

/-! how many tones have the one k above them behind them -/
def followOf (n k : Int) : List Int → Nat
  | [] => 0
  | x :: xs => (if (x + k) % n ∈ xs then 1 else 0) + followOf n k xs
def refFollow (n k : Int) : List Int → List Int → Nat
  | _, [] => 0
  | pre, y :: r => pre.countP (fun x => (x + k) % n = y) + refFollow n k (pre ++ [y]) r
def crossF (n k : Int) (pre : List Int) : List Int → Nat
  | [] => 0
  | y :: r => pre.countP (fun x => (x + k) % n = y) + crossF n k pre r
theorem crossF_snoc (n k : Int) (pre : List Int) (z : Int) : ∀ r : List Int, r.Nodup → crossF n k (pre ++ [z]) r = crossF n k pre r + (if (z + k) % n ∈ r then 1 else 0)
  | [], _ => by simp [crossF]
  | y :: r, hd => by
    have hd' := List.nodup_cons.1 hd
    simp only [crossF, crossF_snoc n k pre z r hd'.2, List.countP_append, List.countP_singleton]
    by_cases h : (z + k) % n = y
    · have : (z + k) % n ∉ r := by rw [h]; exact hd'.1
      simp [h, hd'.1]; omega
    · simp [h]; omega
theorem refFollow_eq (n k : Int) : ∀ (r pre : List Int), r.Nodup → refFollow n k pre r = crossF n k pre r + followOf n k r
  | [], pre, _ => rfl
  | y :: r, pre, hd => by
    have hd' := List.nodup_cons.1 hd
    simp only [refFollow, crossF, followOf, refFollow_eq n k r (pre ++ [y]) hd'.2, crossF_snoc n k pre y r hd'.2]
    omega
theorem crossF_nil (n k : Int) : ∀ r : List Int, crossF n k [] r = 0
  | [] => rfl
  | _ :: r => by simp [crossF, crossF_nil n k r]
theorem refFollow_row {n k : Int} {l : List Int} (hd : l.Nodup) : refFollow n k [] l = followOf n k l := by rw [refFollow_eq n k l [] hd, crossF_nil]; omega
theorem followOf_le (n k : Int) : ∀ l : List Int, followOf n k l ≤ l.length
  | [] => Nat.le_refl _
  | x :: xs => by have := followOf_le n k xs; simp only [followOf, List.length_cons]; split <;> omega
/-- a tone is not the one k above it -/
theorem above_ne {n k x : Int} (hk : 1 ≤ k) (hk2 : k < n) (hx : 0 ≤ x) (hx2 : x < n) : (x + k) % n ≠ x := by
  intro h
  rcases Int.lt_or_le (x + k) n with h1 | h1
  · rw [Int.emod_eq_of_lt (by omega) h1] at h; omega
  · have h2 : (x + k) % n = x + k - n := by
      rw [← Int.sub_emod_right, Int.emod_eq_of_lt (by omega) (by omega)]
    omega

theorem Follow_loop (l : List Int) (k : Int) (hk : 1 ≤ k) (hk2 : k < l.length) (hl : l.length ≤ 62) (hr : ∀ x ∈ l, 0 ≤ x ∧ x < l.length) : ∀ (xs pre : List Int) (c : Nat), l = pre ++ xs → c ≤ pre.length →
    Ev (fun q => rows_Follow.l0 q l k (l.length : Int) (c : Int) l (l.length : Int) (pre.length : Int)) (((c + followOf l.length k xs : Nat) : Int), 0) := by
  intro xs
  induction xs with
  | nil =>
    intro pre c h0 hc
    refine Ev.succ ?_
    simp only [rows_Follow.l0, if_neg (mid_end h0), followOf, Nat.add_zero]
    exact Ev.some _
  | cons x xs ih =>
    intro pre c h0 hc
    have hx := hr x (by rw [h0]; simp)
    have hw : wrap64 (x + k) = x + k := wrap_id (by omega) (by omega)
    have hdrop : l.drop ((pre.length : Int)).toNat = x :: xs := by rw [Int.toNat_natCast, h0]; simp
    have hlen : pre.length < l.length := by rw [h0]; simp
    have hne := above_ne hk hk2 hx.1 hx.2
    refine Ev.succ ?_
    simp only [rows_Follow.l0, if_pos (mid_lt h0), if_pos (show (0 : Int) ≤ (pre.length : Int) by omega), if_pos (show (pre.length : Int) ≤ (l.length : Int) by omega), mid_rd h0, mid_next h0 (by omega), hw, rows_mod_f (show (0 : Int) < (l.length : Int) by omega) (show (l.length : Int) < 4611686018427387904 by omega), Option.bind_some, hdrop]
    refine Ev.bind (Contains_ev (x :: xs) _ (by rw [← hdrop]; simp only [List.length_drop]; omega)) ?_
    have hmem : ((x + k) % (l.length : Int) ∈ x :: xs) ↔ (x + k) % (l.length : Int) ∈ xs := by simp [hne]
    simp only [hmem, followOf]
    by_cases hm : (x + k) % (l.length : Int) ∈ xs
    · have hw2 : wrap64 ((c : Int) + 1) = ((c + 1 : Nat) : Int) := by rw [wrap_id (by omega) (by omega)]; omega
      simp only [hm, decide_true, if_true, hw2]
      have := ih (pre ++ [x]) (c + 1) (mid_mv h0) (by simp; omega)
      rw [← Nat.add_assoc]
      exact this
    · simp only [hm, decide_false, if_false, Nat.zero_add]
      exact ih (pre ++ [x]) c (mid_mv h0) (by simp; omega)
def FollowOk (l : List Int) (k : Int) : Prop := IsRow l ∧ 1 ≤ k ∧ k < l.length
instance (l : List Int) (k : Int) : Decidable (FollowOk l k) := by unfold FollowOk; infer_instance
theorem Follow_ev (l : List Int) (k : Int) : Ev (fun q => rows_Follow.f q l k) (if FollowOk l k then ((followOf l.length k l : Int), 0) else (0, 2)) := by
  unfold rows_Follow.f
  refine Ev.bind (valid_ev l) ?_
  by_cases h : IsRow l
  · have h1 := h.1; have h2 := h.2.1
    simp only [h, decide_true, if_true]
    refine Ev.ite (fun e => ?_) (fun e => ?_)
    · have hn : ¬ FollowOk l k := fun hh => by have := hh.2.1; omega
      refine Ev.succ ?_
      simp only [rows_Follow.j0, if_true, hn, if_false]
      exact Ev.some _
    · refine Ev.succ ?_
      simp only [rows_Follow.j0]
      refine Ev.ite (fun e2 => ?_) (fun e2 => ?_)
      · have e2' : k ≥ (l.length : Int) := of_decide_eq_true e2
        have hn : ¬ FollowOk l k := fun hh => by have := hh.2.2; omega
        simp only [hn, if_false]
        exact Ev.some _
      · have e2' : ¬ k ≥ (l.length : Int) := fun h => e2 (decide_eq_true h)
        have hy : FollowOk l k := ⟨h, by omega, by omega⟩
        simp only [hy, if_true]
        have := Follow_loop l k (by omega) (by omega) (by omega) h.2.2.1 l [] 0 rfl (Nat.le_refl _)
        simpa using this
  · have hn : ¬ FollowOk l k := fun hh => h hh.1
    simp only [h, decide_false, Bool.false_eq_true, if_false, hn]
    refine Ev.succ ?_
    simp only [rows_Follow.j0, if_true]
    exact Ev.some _

theorem refFollow_loop (l : List Int) (k : Int) (hk : 1 ≤ k) (hk2 : k < l.length) (hl : l.length ≤ 62) (hr : ∀ x ∈ l, 0 ≤ x ∧ x < l.length) : ∀ (xs pre : List Int) (c : Nat), l = pre ++ xs → c + xs.length * 62 + refFollow l.length k pre xs ≤ 1000000 →
    Ev (fun q => sackbutref05_Follow.l0 q l k (c : Int) l (l.length : Int) (pre.length : Int)) (((c + refFollow l.length k pre xs : Nat) : Int)) := by
  intro xs
  induction xs with
  | nil =>
    intro pre c h0 hc
    refine Ev.succ ?_
    simp only [sackbutref05_Follow.l0, if_neg (mid_end h0), refFollow, Nat.add_zero]
    exact Ev.some _
  | cons y xs ih =>
    intro pre c h0 hc
    have hlen : pre.length < l.length := by rw [h0]; simp
    have htake : l.take ((pre.length : Int)).toNat = pre := by rw [Int.toNat_natCast, h0]; simp
    refine Ev.succ ?_
    simp only [sackbutref05_Follow.l0, if_pos (mid_lt h0), if_pos (show (0 : Int) ≤ (pre.length : Int) by omega), if_pos (show (pre.length : Int) ≤ (l.length : Int) by omega), mid_rd h0, htake]
    simp only [refFollow] at hc ⊢
    -- the inner loop
    have inner : ∀ (zs p2 : List Int) (c2 : Nat), pre = p2 ++ zs → c2 + zs.countP (fun x => (x + k) % (l.length : Int) = y) + xs.length * 62 + refFollow l.length k (pre ++ [y]) xs ≤ 1000000 →
        Ev (fun q => sackbutref05_Follow.l1 q l k (c2 : Int) y l (l.length : Int) (pre.length : Int) pre (pre.length : Int) (p2.length : Int)) (((c2 + zs.countP (fun x => (x + k) % (l.length : Int) = y) + refFollow l.length k (pre ++ [y]) xs : Nat) : Int)) := by
      intro zs
      induction zs with
      | nil =>
        intro p2 c2 hp hc2
        refine Ev.succ ?_
        simp only [sackbutref05_Follow.l1, if_neg (mid_end hp), List.countP_nil, Nat.add_zero, mid_next h0 (by omega)]
        exact ih (pre ++ [y]) c2 (mid_mv h0) (by simp at hc2; omega)
      | cons z zs ih2 =>
        intro p2 c2 hp hc2
        have hz := hr z (by rw [h0, hp]; simp)
        have hw : wrap64 (z + k) = z + k := wrap_id (by omega) (by omega)
        have hmod : sackbutref05_mod.f (z + k) (l.length : Int) = some ((z + k) % (l.length : Int)) := by
          unfold sackbutref05_mod.f
          rw [if_neg (by omega), tmod_mod (by omega) (by omega)]
        refine Ev.succ ?_
        simp only [sackbutref05_Follow.l1, if_pos (mid_lt hp), if_pos (show (0 : Int) ≤ (p2.length : Int) by omega), mid_rd hp, hw, hmod, Option.bind_some, mid_next hp (by omega)]
        rw [List.countP_cons] at hc2 ⊢
        refine Ev.ite (fun e => ?_) (fun e => ?_)
        · have hw2 : wrap64 ((c2 : Int) + 1) = ((c2 + 1 : Nat) : Int) := by rw [wrap_id (by omega) (by simp [e] at hc2; omega)]; omega
          rw [hw2]
          have := ih2 (p2 ++ [z]) (c2 + 1) (mid_mv hp) (by simp [e] at hc2; omega)
          have e1 : c2 + 1 + zs.countP (fun x => (x + k) % (l.length : Int) = y) + refFollow l.length k (pre ++ [y]) xs = c2 + (zs.countP (fun x => (x + k) % (l.length : Int) = y) + if decide ((z + k) % (l.length : Int) = y) = true then 1 else 0) + refFollow l.length k (pre ++ [y]) xs := by
            rw [if_pos (by simpa using e)]; omega
          rw [← e1]
          exact this
        · have := ih2 (p2 ++ [z]) c2 (mid_mv hp) (by simp [e] at hc2; omega)
          have e1 : c2 + zs.countP (fun x => (x + k) % (l.length : Int) = y) + refFollow l.length k (pre ++ [y]) xs = c2 + (zs.countP (fun x => (x + k) % (l.length : Int) = y) + if decide ((z + k) % (l.length : Int) = y) = true then 1 else 0) + refFollow l.length k (pre ++ [y]) xs := by
            rw [if_neg (by simpa using e)]; omega
          rw [← e1]
          exact this
    have := inner pre [] c rfl (by simp at hc; omega)
    have e1 : c + pre.countP (fun x => (x + k) % (l.length : Int) = y) + refFollow l.length k (pre ++ [y]) xs = c + (pre.countP (fun x => (x + k) % (l.length : Int) = y) + refFollow l.length k (pre ++ [y]) xs) := by omega
    rw [← e1]
    exact this
theorem refFollow_ev {l : List Int} {k : Int} (h : FollowOk l k) : Ev (fun q => sackbutref05_Follow.f q l k) (followOf l.length k l : Int) := by
  obtain ⟨hr, hk, hk2⟩ := h
  have h1 := hr.1; have h2 := hr.2.1
  have hle := followOf_le l.length k l
  have := refFollow_loop l k hk hk2 (by omega) hr.2.2.1 l [] 0 rfl (by rw [refFollow_row hr.2.2.2]; omega)
  rw [refFollow_row hr.2.2.2] at this
  simpa [sackbutref05_Follow.f] using this
theorem followOk_take (l : List Int) (k : Int) : FollowOk (l.take 13) k ↔ FollowOk l k := by
  constructor
  · intro h
    have hr := (isRow_take l).1 h.1
    rw [row_take hr] at h
    exact h
  · intro h
    rw [row_take h.1]
    exact h

end Go.Proofs.Ytpfjnpbcnlbhaaa.P
