/- A part of a proof that a law's Go function returns true for every input, laid by this session's program mp.py (which drives the kit's print). Conditions: as each theorem states them. -/
import Derived.Shelf.Abstract
import Derived.Test.YtnjmiodnkjabgaaGPred
import Derived.Test.YtnjmiodnkjabgaaMPop
import Derived.Test.YtnjmiodnkjabgaaP0
namespace Go.Proofs.Ytnjmiodnkjabgaa.P
open Go.RowKit Go.Proofs.YtnjmiodnkjabgaaW.PrintWords Go.Proofs.YtnjmiodnkjabgaaW.PrintLast Go.Proofs.YtnjmiodnkjabgaaW.PrintMore
attribute [local go_sem] max2_int min2_int max_two min_two max_three min_three max_four min_four   -- for this text's walks alone
set_option linter.unusedVariables false
set_option linter.unusedSimpArgs false

def badChord (n : Int) (c : Int) : Bool := decide (c < 0) || decide (c ≥ shl .i64 1 n)
def chords_circle_valid.f (a0 : Int) (l1 : List Int) : Option Bool := if a0 ≥ 2 then (if a0 ≤ 16 then (if l1.length < 17592186044416 then some (!(l1.any (badChord a0))) else none) else some false) else some false
set_option maxHeartbeats 1000000 in
theorem chords_valid1 (n x : Int) (B : Nat) (W : World) (h2 : 2 ≤ n) (h16 : n ≤ 16) (hc : W.cell? ⟨B, 0, none⟩ = some (.int .i64 n)) :
    Calls Try.prog 22 #[.int .i64 x, .pointer (some ⟨B, 0, none⟩)] W fun e w' => e = .returned (.bool (badChord n x)) ∧ Drawn0 W w' := by
  obtain ⟨j, hj⟩ : ∃ j : Int, shl .i64 1 n = j := ⟨_, rfl⟩
  have e1 : IntKind.i64.wrap (2 ^ n.toNat) = j := by rw [← hj]; unfold shl; rw [Nat.min_eq_left (by show n.toNat ≤ 64; omega), Int.one_mul]
  have e2 : wrap64 (2 ^ n.toNat) = j := by rw [← e1]; exact (i64_w _).symm
  have e3 : IntKind.i64.wrap (1 * 2 ^ n.toNat) = j := by rw [Int.one_mul]; exact e1
  have n0 : (0 : Int) ≤ n := by omega
  have n64 : n ≤ 64 := by omega
  have hn : n.toNat ≤ 64 := by omega
  by_cases c1 : x < 0
  · have c1b : decide (x < 0) = true := decide_eq_true c1
    have hf : badChord n x = true := by unfold badChord; rw [c1b]; rfl
    have HF := Aside0.mk hf
    clear hf hj
    go_enter Try.func22, Try.ntmps22
    go_wp2
    go_ret
    exact ⟨by rw [HF.out]; rfl, Drawn0.refl _⟩
  · have c1b : decide (x < 0) = false := decide_eq_false c1
    have hf : badChord n x = decide (x ≥ j) := by unfold badChord; rw [c1b, hj]; rfl
    have HF := Aside0.mk hf
    clear hf hj
    go_enter Try.func22, Try.ntmps22
    go_wp2
    go_ret
    exact ⟨by rw [HF.out]; rfl, Drawn0.refl _⟩
set_option maxHeartbeats 2000000 in
theorem chords_circle_valid.calls (a0 : Int) (A1 : Option Addr) (c1 : Nat) (l1 : List Int) (r : Bool) (w : World) (hr1 : Kd.C (Kd.int .i64) w A1 l1.length l1) (hc1 : l1.length ≤ c1) (h : chords_circle_valid.f a0 l1 = some r) :
    Calls Try.prog 15 #[.int .i64 a0, .slice A1 l1.length c1] w fun e w' => e = .returned (.bool r) ∧ Below w.heap.size w w' := by
  have HR := Aside0.mk hr1
  clear hr1
  unfold chords_circle_valid.f at h
  by_cases h2 : a0 ≥ 2
  · rw [if_pos h2] at h
    by_cases h16 : a0 ≤ 16
    · rw [if_pos h16] at h
      have hl : l1.length < 17592186044416 := by
        rcases Nat.lt_or_ge l1.length 17592186044416 with hl | hl
        · exact hl
        · rw [if_neg (by omega)] at h; cases h
      rw [if_pos hl] at h
      have hf := Option.some.inj h
      clear h
      have d2 : decide (a0 ≥ 2) = true := decide_eq_true h2
      have d2' : decide (2 ≤ a0) = true := decide_eq_true h2
      have d16 : decide (a0 ≤ 16) = true := decide_eq_true h16
      have HP : GivesBool 22 #[.pointer (some ⟨w.heap.size, 0, none⟩)] (badChord a0) (w.alloc (.cells #[.int .i64 a0] 35)) := fun W x hb => by
        have hc : W.cell? ⟨w.heap.size, 0, none⟩ = some (.int .i64 a0) := (hb.cell (p := ⟨w.heap.size, 0, none⟩) (by simp)).trans (by simp)
        exact chords_valid1 a0 x w.heap.size W (by omega) h16 hc
      have eg : ∀ args w, (callFunc 22 args).run Try.prog w = .ok (.enter 22 args) w := enters_of Try.func22 (by kernel_rfl) rfl
      have HC := ContainsFunc_calls (badChord a0) 22 #[.pointer (some ⟨w.heap.size, 0, none⟩)] eg A1 c1 l1 (w.alloc (.cells #[.int .i64 a0] 35)) (Kd.C_alloc HR.out _) HP (by omega)
      have HCa := Aside0.mk HC
      clear HC HP hl
      cases hq : l1.any (badChord a0) with
      | true =>
        rw [hq] at hf
        have HCb := HCa.out
        rw [hq] at HCb
        clear hq HCa
        subst hf
        go_enter Try.func15, Try.ntmps15
        go_wp2_with (go_at_call 21; refine HCb.mono ?_; rintro e w' ⟨rfl, ⟨q', rfl⟩⟩)
        go_ret
        exact ⟨by simp, pw_below_drewN (below_alloc (Below.refl _ _) _) _⟩
      | false =>
        rw [hq] at hf
        have HCb := HCa.out
        rw [hq] at HCb
        clear hq HCa
        subst hf
        go_enter Try.func15, Try.ntmps15
        go_wp2_with (go_at_call 21; refine HCb.mono ?_; rintro e w' ⟨rfl, ⟨q', rfl⟩⟩)
        go_ret
        exact ⟨by simp, pw_below_drewN (below_alloc (Below.refl _ _) _) _⟩
    · rw [if_neg h16] at h
      have hf := Option.some.inj h
      subst hf
      have d2' : decide (2 ≤ a0) = true := decide_eq_true h2
      have d16 : decide (a0 ≤ 16) = false := decide_eq_false h16
      clear h
      go_enter Try.func15, Try.ntmps15
      go_wp2
      go_ret
      exact ⟨rfl, below_alloc (Below.refl _ _) _⟩
  · rw [if_neg h2] at h
    have hf := Option.some.inj h
    subst hf
    have d2' : decide (2 ≤ a0) = false := decide_eq_false h2
    clear h
    go_enter Try.func15, Try.ntmps15
    go_wp2
    go_ret
    exact ⟨rfl, below_alloc (Below.refl _ _) _⟩

end Go.Proofs.Ytnjmiodnkjabgaa.P
