/- A part of a proof that a law's Go function returns true for every input, laid by this session's program mp.py (which drives the kit's print). Conditions: as each theorem states them. -/
import Derived.Test.YtnjmiodnkjabgaaMCirc
import Derived.Test.YtnjmiodnkjabgaaP0
import Derived.Test.YtnjmiodnkjabgaaPf10
import Derived.Test.YtnjmiodnkjabgaaQBase
import Derived.Test.YtnjmiodnkjabgaaQChords
namespace Go.Proofs.Ytnjmiodnkjabgaa.P
open Go.RowKit Go.Proofs.YtnjmiodnkjabgaaW.PrintWords Go.Proofs.YtnjmiodnkjabgaaW.PrintLast Go.Proofs.YtnjmiodnkjabgaaW.PrintMore
attribute [local go_sem] max2_int min2_int max_two min_two max_three min_three max_four min_four   -- for this text's walks alone
set_option linter.unusedVariables false
set_option linter.unusedSimpArgs false

/-! chords.Common -/
noncomputable def comOf (n a b : Nat) : List Int := Seal ((List.range n).map (fun k => (common n a b k : Int)))
theorem comOf_eq (n a b : Nat) : comOf n a b = (List.range n).map (fun k => (common n a b k : Int)) := Seal_eq _
theorem comOf_length (n a b : Nat) : (comOf n a b).length = n := by simp [comOf_eq]
theorem comOf_rd {n a b : Nat} {k : Nat} (hk : k < n) : rd (comOf n a b) (k : Int) = (common n a b k : Int) := by
  rw [rd_nat, List.getD_eq_getElem?_getD, comOf_eq]
  simp [hk]
theorem vecOf_rd {n c : Nat} {i : Nat} (hi : i < n / 2) : rd (vecOf n c) (i : Int) = (vecAt n c (i + 1) : Int) := by
  rw [rd_nat, List.getD_eq_getElem?_getD, vecOf_get hi]
  rfl
theorem Common_loop {n a b : Nat} (hn : 2 ≤ n) (hn2 : n ≤ 16) (ha : a < 2 ^ n) (hb : b < 2 ^ n) : ∀ (m d : Nat), d + m = n →
    Ev (fun k => chords_Common.l0 k (a : Int) (b : Int) (n : Int) ((List.range d).map (fun k => (common n a b k : Int))) (n : Int) (d : Int)) (comOf n a b, 0) := by
  intro m
  induction m with
  | zero =>
    intro d hd
    refine Ev.succ ?_
    simp only [chords_Common.l0, if_neg (show ¬ (d : Int) < (n : Int) by omega)]
    have : d = n := by omega
    rw [this, comOf_eq]
    exact Ev.some _
  | succ m ih =>
    intro d hd
    have p1 : (d : Int) < (n : Int) := by omega
    have p2 : ((List.range d).map (fun k => (common n a b k : Int))).length < 17592186044416 := by rw [List.length_map, List.length_range]; omega
    have hcm := common_f (n := n) (a := a) (b := b) (d := d) (by omega) (by omega) ha hb (by omega)
    obtain ⟨t, ht, ht2⟩ := Option.bind_eq_some_iff.1 hcm
    have hw : wrap64 ((d : Int) + 1) = ((d + 1 : Nat) : Int) := by rw [wrap_id (by omega) (by omega)]; omega
    have go := ih (d + 1) (by omega)
    simp only [List.range_succ, List.map_append, List.map_cons, List.map_nil] at go
    refine Ev.succ ?_
    simp only [chords_Common.l0, if_pos p1]
    refine Ev.bind_some ht ?_
    refine Ev.bind_some ht2 ?_
    simp only [if_pos p2, hw]
    exact go
theorem Common_ev (n a b : Int) : Ev (fun k => chords_Common.f k n a b) (if ValidC n a ∧ ValidC n b then (comOf n.toNat a.toNat b.toNat, 0) else ([], 2)) := by
  unfold chords_Common.f
  refine Ev.bind_some (valid2_f n a b) ?_
  by_cases h : ValidC n a ∧ ValidC n b
  · simp only [h, decide_true, if_true]
    obtain ⟨N, A, rfl, rfl, h2, h16, hA⟩ := validC_nat h.1
    obtain ⟨N', B, e, rfl, _, _, hB⟩ := validC_nat h.2
    obtain rfl : N = N' := by omega
    simp only [Int.toNat_natCast, and_self, if_true]
    exact Common_loop h2 h16 hA hB N 0 (by omega)
  · simp only [h, decide_false, Bool.false_eq_true, if_false]
    exact Ev.some _

end Go.Proofs.Ytnjmiodnkjabgaa.P
