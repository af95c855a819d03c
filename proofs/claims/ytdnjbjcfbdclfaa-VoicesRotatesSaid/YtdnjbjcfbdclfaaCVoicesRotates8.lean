/- Proved here: the Go function sackbutlaw06.VoicesRotates returns true for every input (its printed form comes to true), whatever its arguments. Conditions: none beyond the row's own reach in memory. -/
import Derived.Laws.EntriesVeiled
import Derived.Test.YtdnjbjcfbdclfaaRows
import Derived.WalkKit
import Derived.ProofKit
import Derived.OpenShut
import Derived.ShutString
import Derived.ChangeOld
import Derived.Below
import Derived.SizedLaws
import Derived.Test.YtdnjbjcfbdclfaaWSized
import Derived.Test.YtdnjbjcfbdclfaaCVoicesRotates1
import Derived.Test.YtdnjbjcfbdclfaaCVoicesRotates2
import Derived.Test.YtdnjbjcfbdclfaaCVoicesRotates3
import Derived.Test.YtdnjbjcfbdclfaaCVoicesRotates4
import Derived.Test.YtdnjbjcfbdclfaaCVoicesRotates5
import Derived.Test.YtdnjbjcfbdclfaaCVoicesRotates6
import Derived.Test.YtdnjbjcfbdclfaaCVoicesRotates7
namespace Go.Proofs.Ytdnjbjcfbdclfaa.P
open Go.RowKit Go.Proofs.YtdnjbjcfbdclfaaW.PrintWords Go.Proofs.YtdnjbjcfbdclfaaW.PrintLast Go.Proofs.YtdnjbjcfbdclfaaW.PrintMore
attribute [local go_sem] max2_int min2_int max_two min_two max_three min_three max_four min_four   -- for this text's walks alone
set_option linter.unusedVariables false
set_option linter.unusedSimpArgs false

/-! whether voices cross, in the program's way and in the document's -/
def stB (n lo hi j : Int) : Bool := decide (lo < j * n ∧ j * n < hi)
def meetB (n a am b bm : Int) : Bool := decide (a ≠ b) && (stB n (min ((b - a) % n) ((b - a) % n + bm - am)) (max ((b - a) % n) ((b - a) % n + bm - am)) (-1) || (stB n (min ((b - a) % n) ((b - a) % n + bm - am)) (max ((b - a) % n) ((b - a) % n + bm - am)) 0 || (stB n (min ((b - a) % n) ((b - a) % n + bm - am)) (max ((b - a) % n) ((b - a) % n + bm - am)) 1 || (stB n (min ((b - a) % n) ((b - a) % n + bm - am)) (max ((b - a) % n) ((b - a) % n + bm - am)) 2 || false))))
def rtB (n ap gr j : Int) : Bool := decide ((0 < j * n - ap ∧ j * n - ap < gr) ∨ (j * n - ap < 0 ∧ gr < j * n - ap))
def crB (n a am b bm : Int) : Bool := decide (a ≠ b) && (rtB n (a - b) (am - bm) (-2) || (rtB n (a - b) (am - bm) (-1) || (rtB n (a - b) (am - bm) 0 || (rtB n (a - b) (am - bm) 1 || (rtB n (a - b) (am - bm) 2 || false)))))
theorem diff_mod {n a b : Int} (ha : 0 ≤ a ∧ a < n) (hb : 0 ≤ b ∧ b < n) : (a ≤ b ∧ (b - a) % n = b - a) ∨ (b < a ∧ (b - a) % n = b - a + n) := by
  rcases Int.lt_or_le b a with h | h
  · right; refine ⟨h, ?_⟩
    rw [← Int.add_emod_right, Int.emod_eq_of_lt (by omega) (by omega)]
  · left; exact ⟨h, Int.emod_eq_of_lt (by omega) (by omega)⟩
theorem rtB_neg (n ap gr j : Int) : rtB n ap gr j = rtB n (-ap) (-gr) (-j) := by
  unfold rtB
  rw [decide_eq_decide, Int.neg_mul]
  generalize j * n = v
  omega
theorem crB_symm {n a am b bm : Int} : crB n a am b bm = crB n b bm a am := by
  unfold crB
  have e1 : b - a = -(a - b) := by omega
  have e2 : bm - am = -(am - bm) := by omega
  have e3 : decide (a ≠ b) = decide (b ≠ a) := by rw [decide_eq_decide]; exact ⟨fun h e => h e.symm, fun h e => h e.symm⟩
  rw [e1, e2, e3]
  generalize a - b = ap
  generalize am - bm = gr
  rw [rtB_neg n ap gr (-2), rtB_neg n ap gr (-1), rtB_neg n ap gr 0, rtB_neg n ap gr 1, rtB_neg n ap gr 2]
  simp only [Int.neg_neg, Int.neg_zero]
  generalize rtB n (-ap) (-gr) 2 = b2
  generalize rtB n (-ap) (-gr) 1 = b1
  generalize rtB n (-ap) (-gr) 0 = b0
  generalize rtB n (-ap) (-gr) (-1) = c1
  generalize rtB n (-ap) (-gr) (-2) = c2
  cases b2 <;> cases b1 <;> cases b0 <;> cases c1 <;> cases c2 <;> rfl
theorem nextI {j : Nat} (h : j ≤ 100000) : wrap64 ((j : Int) + 1) = ((j + 1 : Nat) : Int) := by rw [wrap_id (by omega) (by omega)]; omega
theorem nextJ {j : Nat} (h : j ≤ 100000) : wrap64 ((j : Int) + 1) = (j : Int) + 1 := wrap_id (by omega) (by omega)
theorem meet_cr {n a am b bm : Int} (ha : 0 ≤ a ∧ a < n) (hb : 0 ≤ b ∧ b < n) (h1 : -n ≤ 2 * am ∧ 2 * am ≤ n) (h2 : -n ≤ 2 * bm ∧ 2 * bm ≤ n) : meetB n a am b bm = crB n a am b bm := by
  rw [Bool.eq_iff_iff]
  unfold meetB crB rtB stB
  rcases diff_mod ha hb with ⟨h, e⟩ | ⟨h, e⟩
  all_goals
    rw [e]
    simp only [Bool.and_eq_true, Bool.or_eq_true, decide_eq_true_eq, Bool.false_eq_true, or_false]
    omega
theorem meet_step {n lo hi j : Int} {r : Bool} (hn : 0 ≤ n ∧ n ≤ 16) (hj : -10 ≤ j ∧ j ≤ 2) (h : Ev (fun k => voices_circle_meet.l0 k n lo hi (j + 1)) r) (hjn : -160 ≤ j * n ∧ j * n ≤ 160) : Ev (fun k => voices_circle_meet.l0 k n lo hi j) (stB n lo hi j || r) := by
  have hw1 : wrap64 (j + 1) = j + 1 := wrap_id (by omega) (by omega)
  have hw : wrap64 (j * n) = j * n := wrap_id (by omega) (by omega)
  refine Ev.succ ?_
  unfold stB
  simp only [voices_circle_meet.l0, if_pos hj.2, hw, hw1]
  refine Ev.ite (fun e1 => ?_) (fun e1 => ?_)
  · refine Ev.ite (fun e2 => ?_) (fun e2 => ?_)
    · rw [decide_eq_true ⟨e1, e2⟩, Bool.true_or]; exact Ev.some _
    · rw [decide_eq_false (fun h => e2 h.2), Bool.false_or]; exact h
  · rw [decide_eq_false (fun h => e1 h.1), Bool.false_or]; exact h
theorem meet_ev {n a am b bm : Int} (hn : 2 ≤ n) (hn2 : n ≤ 16) (ha : 0 ≤ a ∧ a < n) (hb : 0 ≤ b ∧ b < n) (h1 : -n ≤ 2 * am ∧ 2 * am ≤ n) (h2 : -n ≤ 2 * bm ∧ 2 * bm ≤ n) : Ev (fun k => voices_circle_meet.f k n a am b bm) (meetB n a am b bm) := by
  have m1 := Int.emod_nonneg (b - a) (show n ≠ 0 by omega)
  have m2 := Int.emod_lt_of_pos (b - a) (show 0 < n by omega)
  unfold voices_circle_meet.f meetB
  refine Ev.ite (fun e => by rw [decide_eq_false (fun h => h e), Bool.false_and]; exact Ev.some _) (fun e => ?_)
  rw [decide_eq_true e, Bool.true_and, wrap_id (n := b - a) (by omega) (by omega)]
  refine Ev.bind_some (mod_f hn hn2) ?_
  generalize (b - a) % n = f at *
  rw [wrap_id (n := f + bm) (by omega) (by omega), wrap_id (n := f + bm - am) (by omega) (by omega), mn_eq, mx_eq]
  refine meet_step (by omega) (by omega) ?_ (by omega)
  refine meet_step (by omega) (by omega) ?_ (by omega)
  refine meet_step (by omega) (by omega) ?_ (by omega)
  refine meet_step (by omega) (by omega) ?_ (by omega)
  refine Ev.succ ?_
  simp only [voices_circle_meet.l0]
  exact Ev.some _
/-- what two voices need of each other -/
def toneI (a : List Int) (i : Nat) : Int := a.getD i 0
def mvAt (n : Int) (a b l : List Int) (i : Nat) : Int := mvN n (toneI a i) (toneI b (toneI l i).toNat)
theorem rd_toneI (a : List Int) (i : Nat) : rd a (i : Int) = toneI a i := rd_nat a i
theorem mv_all {n : Int} {a b l : List Int} (h : TwoN n a b) (hl : l.length = a.length) (hk : ∀ k ∈ l, 0 ≤ k ∧ k < (a.length : Int)) {i : Nat} (hi : i < a.length) :
    (0 ≤ toneI a i ∧ toneI a i < n) ∧ (0 ≤ toneI l i ∧ toneI l i < (b.length : Int)) ∧ (0 ≤ toneI b (toneI l i).toNat ∧ toneI b (toneI l i).toNat < n) ∧ (-n ≤ 2 * mvAt n a b l i ∧ 2 * mvAt n a b l i ≤ n) := by
  have h1 := h.1.2.2.2.2 _ (getD_mem (l := a) (i := i) hi)
  have h2 := hk _ (getD_mem (l := l) (i := i) (by omega))
  have hab := h.2.2
  have h3 := h.2.1.2.2.2.2 _ (getD_mem (l := b) (i := (l.getD i 0).toNat) (by omega))
  exact ⟨h1, ⟨h2.1, by show l.getD i 0 < _; omega⟩, h3, mvN_bd h.1.1⟩
def meetF (n : Int) (a b l : List Int) (i j : Nat) : Bool := meetB n (toneI a i) (mvAt n a b l i) (toneI a j) (mvAt n a b l j)
def crF (n : Int) (a b l : List Int) (i j : Nat) : Bool := crB n (toneI a i) (mvAt n a b l i) (toneI a j) (mvAt n a b l j)
theorem cross_l1 {n : Int} {a b l : List Int} (h : TwoN n a b) (hl : l.length = a.length) (hk : ∀ k ∈ l, 0 ≤ k ∧ k < (a.length : Int)) {i : Nat} (hi : i < a.length) (r : Bool) (hr : Ev (fun k => voices_circle_cross.l0 k n a b l (a.length : Int) ((i : Int) + 1)) r) : ∀ (m j : Nat) (o : Bool), j + m = i → (o = true ↔ (∃ j', j ≤ j' ∧ j' < i ∧ meetF n a b l i j' = true) ∨ r = true) →
    Ev (fun k => voices_circle_cross.l1 k n a b l (i : Int) (a.length : Int) (i : Int) (i : Int) (j : Int)) o := by
  have hlen := h.1.2.2.2.1
  obtain ⟨x1, x2, x3, x4⟩ := mv_all h hl hk hi
  intro m
  induction m with
  | zero =>
    intro j o hj ho
    have p1 : ¬ (j : Int) < (i : Int) := by omega
    have hi5 : i ≤ 100000 := by omega
    refine Ev.succ ?_
    simp only [voices_circle_cross.l1, if_neg p1, nextJ hi5]
    have : o = r := by
      rw [Bool.eq_iff_iff, ho]
      exact ⟨fun h => h.elim (fun ⟨j', h1, h2, _⟩ => by omega) id, .inr⟩
    rw [this]; exact hr
  | succ m ih =>
    intro j o hj ho
    have hji : j < a.length := by omega
    obtain ⟨y1, y2, y3, y4⟩ := mv_all h hl hk hji
    have p1 : (j : Int) < (i : Int) := by omega
    have q1 : (0 : Int) ≤ (i : Int) := by omega
    have q2 : (i : Int) < (a.length : Int) := by omega
    have q3 : (i : Int) < (l.length : Int) := by omega
    have q4 : (0 : Int) ≤ (j : Int) := by omega
    have q5 : (j : Int) < (a.length : Int) := by omega
    have q6 : (j : Int) < (l.length : Int) := by omega
    have e1 : rd b (toneI l i) = toneI b (toneI l i).toNat := rfl
    have e2 : rd b (toneI l j) = toneI b (toneI l j).toNat := rfl
    have hj5 : j ≤ 100000 := by omega
    have hstep : j + 1 + m = i := by omega
    have go := ih (j + 1)
    refine Ev.succ ?_
    simp only [voices_circle_cross.l1, if_pos p1, if_pos q1, if_pos q2, if_pos q3, if_pos q4, if_pos q5, if_pos q6, rd_toneI, if_pos y2.1, if_pos y2.2, if_pos x2.1, if_pos x2.2, e1, e2]
    refine Ev.bind_some (movement_f h.1.1 h.1.2.1 x1 x3) ?_
    refine Ev.bind_some (movement_f h.1.1 h.1.2.1 y1 y3) ?_
    refine Ev.bind (meet_ev h.1.1 h.1.2.1 x1 y1 x4 y4) ?_
    refine Ev.ite (fun e => ?_) (fun e => ?_)
    · have : o = true := ho.2 (.inl ⟨j, Nat.le_refl _, by omega, e⟩)
      rw [this]; exact Ev.some _
    · rw [nextI hj5]
      refine go o hstep (ho.trans ⟨fun h => h.imp (fun ⟨j', h1, h2, h3⟩ => ⟨j', ?_, h2, h3⟩) id, fun h => h.imp (fun ⟨j', h1, h2, h3⟩ => ⟨j', by omega, h2, h3⟩) id⟩)
      rcases Nat.lt_or_ge j j' with h4 | h4
      · omega
      · obtain rfl : j = j' := by omega
        exact absurd h3 e
theorem cross_ev {n : Int} {a b l : List Int} (h : TwoN n a b) (hl : l.length = a.length) (hk : ∀ k ∈ l, 0 ≤ k ∧ k < (a.length : Int)) (o : Bool) (ho : o = true ↔ ∃ i, i < a.length ∧ ∃ j, j < i ∧ meetF n a b l i j = true) : Ev (fun k => voices_circle_cross.f k n a b l) o := by
  have hlen := h.1.2.2.2.1
  have loop : ∀ (m i : Nat) (o : Bool), i + m = a.length → (o = true ↔ ∃ i', i ≤ i' ∧ i' < a.length ∧ ∃ j, j < i' ∧ meetF n a b l i' j = true) → Ev (fun k => voices_circle_cross.l0 k n a b l (a.length : Int) (i : Int)) o := by
    intro m
    induction m with
    | zero =>
      intro i o hi ho
      have p1 : ¬ (i : Int) < (a.length : Int) := by omega
      refine Ev.succ ?_
      simp only [voices_circle_cross.l0, if_neg p1]
      have : o = false := by
        rw [Bool.eq_false_iff]; intro h1
        obtain ⟨i', h2, h3, _⟩ := ho.1 h1; omega
      rw [this]; exact Ev.some _
    | succ m ih =>
      intro i o hi ho
      have p1 : (i : Int) < (a.length : Int) := by omega
      refine Ev.succ ?_
      simp only [voices_circle_cross.l0, if_pos p1]
      obtain ⟨r, hr⟩ : ∃ r : Bool, r = true ↔ ∃ i', i + 1 ≤ i' ∧ i' < a.length ∧ ∃ j, j < i' ∧ meetF n a b l i' j = true := by
        rcases Classical.em (∃ i', i + 1 ≤ i' ∧ i' < a.length ∧ ∃ j, j < i' ∧ meetF n a b l i' j = true) with h1 | h1
        · exact ⟨true, by simp [h1]⟩
        · exact ⟨false, by simp [h1]⟩
      have go := ih (i + 1) r (by omega) hr
      refine cross_l1 h hl hk (by omega) r go i 0 o (by omega) (ho.trans ?_)
      rw [hr]
      constructor
      · rintro ⟨i', h1, h2, j, h3, h4⟩
        rcases Nat.lt_or_ge i i' with h5 | h5
        · exact .inr ⟨i', h5, h2, j, h3, h4⟩
        · obtain rfl : i = i' := by omega
          exact .inl ⟨j, by omega, h3, h4⟩
      · rintro (⟨j, _, h2, h3⟩ | ⟨i', h1, h2, h3⟩)
        · exact ⟨i, Nat.le_refl _, by omega, j, h2, h3⟩
        · exact ⟨i', by omega, h2, h3⟩
  unfold voices_circle_cross.f
  exact loop a.length 0 o (by omega) (ho.trans ⟨fun ⟨i, h1, h2⟩ => ⟨i, by omega, h1, h2⟩, fun ⟨i, _, h1, h2⟩ => ⟨i, h1, h2⟩⟩)
theorem refCross_l2 {n ap gr : Int} {a b l : List Int} {i j : Nat} {x17 : Int} (hn : 0 ≤ n ∧ n ≤ 16) (hap : -16 ≤ ap ∧ ap ≤ 16) {t : Int} (ht : -10 ≤ t ∧ t ≤ 2) (htn : -160 ≤ t * n ∧ t * n ≤ 160) {r : Bool}
    (h : Ev (fun k => sackbutref06_Cross.l2 k n a b l (i : Int) ap gr (t + 1) (l.length : Int) x17 (l.length : Int) (j : Int)) r) : Ev (fun k => sackbutref06_Cross.l2 k n a b l (i : Int) ap gr t (l.length : Int) x17 (l.length : Int) (j : Int)) (rtB n ap gr t || r) := by
  have hw1 : wrap64 (t + 1) = t + 1 := wrap_id (by omega) (by omega)
  have hw : wrap64 (t * n) = t * n := wrap_id (by omega) (by omega)
  have hw2 : wrap64 (t * n - ap) = t * n - ap := wrap_id (by omega) (by omega)
  refine Ev.succ ?_
  unfold rtB
  simp only [sackbutref06_Cross.l2, if_pos ht.2, hw, hw1, hw2]
  generalize t * n - ap = v
  refine Ev.ite (fun e1 => ?_) (fun e1 => ?_)
  · refine Ev.ite (fun e2 => ?_) (fun e2 => ?_)
    · rw [decide_eq_true (.inl ⟨e1, e2⟩), Bool.true_or]; exact Ev.some _
    · refine Ev.ite (fun e3 => by omega) (fun e3 => ?_)
      rw [decide_eq_false (fun h => by omega), Bool.false_or]; exact h
  · refine Ev.ite (fun e2 => ?_) (fun e2 => ?_)
    · refine Ev.ite (fun e3 => ?_) (fun e3 => ?_)
      · rw [decide_eq_true (.inr ⟨e2, e3⟩), Bool.true_or]; exact Ev.some _
      · rw [decide_eq_false (fun h => by omega), Bool.false_or]; exact h
    · rw [decide_eq_false (fun h => by omega), Bool.false_or]; exact h
theorem refCross_l1 {n : Int} {a b l : List Int} (h : TwoN n a b) (hl : l.length = a.length) (hk : ∀ k ∈ l, 0 ≤ k ∧ k < (a.length : Int)) {i : Nat} (hi : i < a.length) (r : Bool) (hr : Ev (fun k => sackbutref06_Cross.l0 k n a b l (l.length : Int) ((i : Int) + 1)) r) : ∀ (m j : Nat) (o : Bool), j + m = l.length → (o = true ↔ (∃ j', j ≤ j' ∧ j' < l.length ∧ crF n a b l i j' = true) ∨ r = true) →
    Ev (fun k => sackbutref06_Cross.l1 k n a b l (i : Int) (l.length : Int) (i : Int) (l.length : Int) (j : Int)) o := by
  have hlen := h.1.2.2.2.1
  have hn := h.1.1
  have hn2 := h.1.2.1
  obtain ⟨x1, x2, x3, x4⟩ := mv_all h hl hk hi
  intro m
  induction m with
  | zero =>
    intro j o hj ho
    have p1 : ¬ (j : Int) < (l.length : Int) := by omega
    have hi5 : i ≤ 100000 := by omega
    refine Ev.succ ?_
    simp only [sackbutref06_Cross.l1, if_neg p1, nextJ hi5]
    have : o = r := by
      rw [Bool.eq_iff_iff, ho]
      exact ⟨fun h => h.elim (fun ⟨j', h1, h2, _⟩ => by omega) id, .inr⟩
    rw [this]; exact hr
  | succ m ih =>
    intro j o hj ho
    have hji : j < a.length := by omega
    obtain ⟨y1, y2, y3, y4⟩ := mv_all h hl hk hji
    have p1 : (j : Int) < (l.length : Int) := by omega
    have q1 : (0 : Int) ≤ (i : Int) := by omega
    have q2 : (i : Int) < (a.length : Int) := by omega
    have q3 : (i : Int) < (l.length : Int) := by omega
    have q4 : (0 : Int) ≤ (j : Int) := by omega
    have q5 : (j : Int) < (a.length : Int) := by omega
    have e1 : rd b (toneI l i) = toneI b (toneI l i).toNat := rfl
    have e2 : rd b (toneI l j) = toneI b (toneI l j).toNat := rfl
    obtain ⟨s, hs⟩ : ∃ s : Bool, s = true ↔ (∃ j', j + 1 ≤ j' ∧ j' < l.length ∧ crF n a b l i j' = true) ∨ r = true := by
      rcases Classical.em ((∃ j', j + 1 ≤ j' ∧ j' < l.length ∧ crF n a b l i j' = true) ∨ r = true) with h1 | h1
      · exact ⟨true, by simp [h1]⟩
      · exact ⟨false, by simp [h1]⟩
    have go := ih (j + 1) s (by omega) hs
    have hos : o = (crF n a b l i j || s) := by
      rw [Bool.eq_iff_iff, ho, Bool.or_eq_true, hs]
      constructor
      · rintro (⟨j', h1, h2, h3⟩ | h1)
        · rcases Nat.lt_or_ge j j' with h4 | h4
          · exact .inr (.inl ⟨j', h4, h2, h3⟩)
          · obtain rfl : j = j' := by omega
            exact .inl h3
        · exact .inr (.inr h1)
      · rintro (h1 | ⟨j', h1, h2, h3⟩ | h1)
        · exact .inl ⟨j, Nat.le_refl _, by omega, h1⟩
        · exact .inl ⟨j', by omega, h2, h3⟩
        · exact .inr h1
    have hj5 : j ≤ 100000 := by omega
    rw [hos]
    unfold crF crB
    refine Ev.succ ?_
    simp only [sackbutref06_Cross.l1, if_pos p1, if_pos q1, if_pos q2, if_pos q4, if_pos q5, rd_toneI]
    refine Ev.ite (fun e => ?_) (fun e => ?_)
    · rw [decide_eq_false (fun h => h e), Bool.false_and, Bool.false_or, nextI hj5]; exact go
    · rw [decide_eq_true e, Bool.true_and]
      simp only [if_pos q3, if_pos y2.1, if_pos y2.2, if_pos x2.1, if_pos x2.2, e1, e2]
      refine Ev.bind_some (refMove_f hn hn2 x1 x3) ?_
      refine Ev.bind_some (refMove_f hn hn2 y1 y3) ?_
      show Ev (fun k => sackbutref06_Cross.l2 k n a b l (i : Int) (wrap64 (toneI a i - toneI a j)) (wrap64 (mvAt n a b l i - mvAt n a b l j)) (-2) (l.length : Int) (i : Int) (l.length : Int) (j : Int)) _
      rw [wrap_id (n := toneI a i - toneI a j) (by omega) (by omega), wrap_id (n := mvAt n a b l i - mvAt n a b l j) (by omega) (by omega)]
      rw [Bool.or_assoc, Bool.or_assoc, Bool.or_assoc, Bool.or_assoc, Bool.or_assoc, Bool.false_or]
      refine refCross_l2 (by omega) (by omega) (by omega) (by omega) ?_
      refine refCross_l2 (by omega) (by omega) (by omega) (by omega) ?_
      refine refCross_l2 (by omega) (by omega) (by omega) (by omega) ?_
      refine refCross_l2 (by omega) (by omega) (by omega) (by omega) ?_
      refine refCross_l2 (by omega) (by omega) (by omega) (by omega) ?_
      refine Ev.succ ?_
      simp only [sackbutref06_Cross.l2]
      refine Ev.ite (fun h => absurd h (by decide)) (fun _ => ?_)
      rw [nextI hj5]
      exact go
theorem refCross_ev {n : Int} {a b l : List Int} (h : TwoN n a b) (hl : l.length = a.length) (hk : ∀ k ∈ l, 0 ≤ k ∧ k < (a.length : Int)) (o : Bool) (ho : o = true ↔ ∃ i, i < a.length ∧ ∃ j, j < a.length ∧ crF n a b l i j = true) : Ev (fun k => sackbutref06_Cross.f k n a b l) o := by
  have hlen := h.1.2.2.2.1
  have loop : ∀ (m i : Nat) (o : Bool), i + m = l.length → (o = true ↔ ∃ i', i ≤ i' ∧ i' < l.length ∧ ∃ j, j < l.length ∧ crF n a b l i' j = true) → Ev (fun k => sackbutref06_Cross.l0 k n a b l (l.length : Int) (i : Int)) o := by
    intro m
    induction m with
    | zero =>
      intro i o hi ho
      have p1 : ¬ (i : Int) < (l.length : Int) := by omega
      refine Ev.succ ?_
      simp only [sackbutref06_Cross.l0, if_neg p1]
      have : o = false := by
        rw [Bool.eq_false_iff]; intro h1
        obtain ⟨i', h2, h3, _⟩ := ho.1 h1; omega
      rw [this]; exact Ev.some _
    | succ m ih =>
      intro i o hi ho
      have p1 : (i : Int) < (l.length : Int) := by omega
      refine Ev.succ ?_
      simp only [sackbutref06_Cross.l0, if_pos p1]
      obtain ⟨r, hr⟩ : ∃ r : Bool, r = true ↔ ∃ i', i + 1 ≤ i' ∧ i' < l.length ∧ ∃ j, j < l.length ∧ crF n a b l i' j = true := by
        rcases Classical.em (∃ i', i + 1 ≤ i' ∧ i' < l.length ∧ ∃ j, j < l.length ∧ crF n a b l i' j = true) with h1 | h1
        · exact ⟨true, by simp [h1]⟩
        · exact ⟨false, by simp [h1]⟩
      have go := ih (i + 1) r (by omega) hr
      refine refCross_l1 h hl hk (by omega) r go l.length 0 o (by omega) (ho.trans ?_)
      rw [hr]
      constructor
      · rintro ⟨i', h1, h2, j, h3, h4⟩
        rcases Nat.lt_or_ge i i' with h5 | h5
        · exact .inr ⟨i', h5, h2, j, h3, h4⟩
        · obtain rfl : i = i' := by omega
          exact .inl ⟨j, by omega, h3, h4⟩
      · rintro (⟨j, _, h2, h3⟩ | ⟨i', h1, h2, h3⟩)
        · exact ⟨i, Nat.le_refl _, by omega, j, h2, h3⟩
        · exact ⟨i', by omega, h2, h3⟩
  unfold sackbutref06_Cross.f
  rw [hl] at loop ⊢
  exact loop a.length 0 o (by omega) (ho.trans ⟨fun ⟨i, h1, h2⟩ => ⟨i, by omega, h1, h2⟩, fun ⟨i, _, h1, h2⟩ => ⟨i, h1, h2⟩⟩)
def CrossP (n : Int) (a b l : List Int) : Prop := ∃ i, i < a.length ∧ ∃ j, j < a.length ∧ crF n a b l i j = true
noncomputable instance (n : Int) (a b l : List Int) : Decidable (CrossP n a b l) := Classical.propDecidable _
theorem crF_self (n : Int) (a b l : List Int) (i : Nat) : crF n a b l i i = false := by unfold crF crB; simp
theorem cross_iff {n : Int} {a b l : List Int} (h : TwoN n a b) (hl : l.length = a.length) (hk : ∀ k ∈ l, 0 ≤ k ∧ k < (a.length : Int)) : (∃ i, i < a.length ∧ ∃ j, j < i ∧ meetF n a b l i j = true) ↔ CrossP n a b l := by
  have hm : ∀ i j, i < a.length → j < a.length → meetF n a b l i j = crF n a b l i j := fun i j hi hj => by
    obtain ⟨x1, _, _, x4⟩ := mv_all h hl hk hi
    obtain ⟨y1, _, _, y4⟩ := mv_all h hl hk hj
    exact meet_cr x1 y1 x4 y4
  constructor
  · rintro ⟨i, h1, j, h2, h3⟩
    exact ⟨i, h1, j, by omega, by rw [← hm i j h1 (by omega)]; exact h3⟩
  · rintro ⟨i, h1, j, h2, h3⟩
    rcases Nat.lt_trichotomy i j with h4 | h4 | h4
    · refine ⟨j, h2, i, h4, ?_⟩
      rw [hm j i h2 h1]
      unfold crF at h3 ⊢
      rw [crB_symm]; exact h3
    · subst h4; rw [crF_self] at h3; cases h3
    · exact ⟨i, h1, j, h4, by rw [hm i j h1 h2]; exact h3⟩

end Go.Proofs.Ytdnjbjcfbdclfaa.P
namespace Go.Proofs.Ytdnjbjcfbdclfaa.P
open Go.RowKit Go.Proofs.YtdnjbjcfbdclfaaW.PrintWords Go.Proofs.YtdnjbjcfbdclfaaW.PrintLast Go.Proofs.YtdnjbjcfbdclfaaW.PrintMore
attribute [local go_sem] max2_int min2_int max_two min_two max_three min_three max_four min_four   -- for this text's walks alone
set_option linter.unusedVariables false
set_option linter.unusedSimpArgs false

/-! the document's first cheapest leading -/
def rstep (pr : List Nat → Int) (s : Option (List Nat)) (l : List Nat) : Option (List Nat) := match s with
  | none => some l
  | some b => if pr l < pr b then some l else some b
def rfold (pr : List Nat → Int) (L : List (List Nat)) : Option (List Nat) := L.foldl (rstep pr) none
theorem rfold_snoc (pr : List Nat → Int) (L : List (List Nat)) (l : List Nat) : rfold pr (L ++ [l]) = rstep pr (rfold pr L) l := by unfold rfold; rw [List.foldl_append]; rfl
theorem fold_same (pr : List Nat → Int) : ∀ (L : List (List Nat)) (s : Option (List Nat) × Int), (∀ b, s.1 = some b → s.2 = pr b) → (L.foldl (bstep pr (fun _ => true)) s).1 = L.foldl (rstep pr) s.1 ∧ ∀ b, (L.foldl (bstep pr (fun _ => true)) s).1 = some b → (L.foldl (bstep pr (fun _ => true)) s).2 = pr b
  | [], s, h => ⟨rfl, h⟩
  | l :: L, s, h => by
    rw [List.foldl_cons, List.foldl_cons]
    have h1 : (bstep pr (fun _ => true) s l).1 = rstep pr s.1 l ∧ ∀ b, (bstep pr (fun _ => true) s l).1 = some b → (bstep pr (fun _ => true) s l).2 = pr b := by
      obtain ⟨s1, s2⟩ := s
      cases s1 with
      | none =>
        unfold bstep rstep
        rw [if_pos ⟨.inl rfl, rfl⟩]
        exact ⟨rfl, fun b hb => by cases hb; rfl⟩
      | some b =>
        have hb := h b rfl
        simp only at hb
        unfold bstep rstep
        by_cases hlt : pr l < pr b
        · rw [if_pos ⟨.inr (by rw [hb]; exact hlt), rfl⟩]
          exact ⟨by simp only; rw [if_pos hlt], fun c hc => by cases hc; rfl⟩
        · rw [if_neg (fun h => h.1.elim (fun h => by cases h) (fun h => hlt (by rw [← hb]; exact h)))]
          exact ⟨by simp only; rw [if_neg hlt], fun c hc => by cases hc; exact hb⟩
    have := fold_same pr L (bstep pr (fun _ => true) s l) h1.2
    rw [h1.1] at this
    exact this
theorem best_ref (n : Int) (a b : List Int) : rfold (prV n a b) (rlead a.length a.length []) = (bestV n a b).1 ∧ ∀ l, (bestV n a b).1 = some l → (bestV n a b).2 = prV n a b l := by
  have h := fold_same (prV n a b) (ldg a.length a.length 0 []) (none, 0) (fun b hb => by cases hb)
  unfold bestV bfold rfold
  rw [← ldg_all]
  exact ⟨h.1.symm, h.2⟩
theorem add_block_ (a : Addr) (n : Nat) : (a.add n).block = a.block := by unfold Addr.add; split <;> rfl
theorem own_some_ {w : World} {base : Nat} {e : TypeId} {v : Value} {vs : List Value} (h : w.ownsRow base e 1 v vs.length vs) (hne : 0 < vs.length) : ∃ ad c, v = .slice (some ad) vs.length c ∧ (∀ j u, vs[j]? = some u → w.cell? (ad.add j) = some u) ∧ ad.block < w.heap.size := by
  obtain ⟨g, c, e1, hc⟩ := own_some h hne
  refine ⟨⟨g, 0, none⟩, c, e1, hc, own_lt h g (by rw [e1]; rfl)⟩
theorem rfold_mem (pr : List Nat → Int) : ∀ (L : List (List Nat)) (s : Option (List Nat)) (b : List Nat), L.foldl (rstep pr) s = some b → b ∈ L ∨ s = some b
  | [], s, b, h => .inr h
  | l :: L, s, b, h => by
    rw [List.foldl_cons] at h
    rcases rfold_mem pr L _ b h with h1 | h1
    · exact .inl (by simp [h1])
    · unfold rstep at h1
      split at h1
      · cases h1; exact .inl (by simp)
      · split at h1
        · cases h1; exact .inl (by simp)
        · exact .inr h1
def sackbutref06_Lead.f (a0 : Int) (l1 l2 : List Int) : Option (List Int) := if TwoN a0 l1 l2 then some (optL (bestV a0 l1 l2).1) else none
theorem rlead_all {k : Nat} : ∀ (r : Nat) (cur : List Nat), cur.length + r = k → (∀ y ∈ cur, y < k) → ∀ l ∈ rlead k r cur, l.length = k ∧ ∀ y ∈ l, y < k
  | 0, cur, h, hc, l, hl => by
    simp only [rlead, List.mem_singleton] at hl
    subst hl; exact ⟨by omega, hc⟩
  | r + 1, cur, h, hc, l, hl => by
    simp only [rlead, List.mem_flatMap, List.mem_range] at hl
    obtain ⟨x, hx, hl⟩ := hl
    split at hl
    · cases hl
    · exact rlead_all r (cur ++ [x]) (by rw [List.length_append, List.length_singleton]; omega) (fun y hy => by
        rcases List.mem_append.1 hy with h | h
        · exact hc y h
        · rw [List.mem_singleton] at h; omega) l hl
theorem refPrice_nums {n : Int} {a b : List Int} (h : TwoN n a b) (x : List Nat) (hx : x.length = a.length) (hl : ∀ y ∈ x, y < a.length) : ∃ kk, sackbutref06_Price.f kk n a b (nums x) = some (prV n a b x) :=
  Ev.rounds (g := fun k => sackbutref06_Price.f k n a b (nums x)) (refPrice_ev h.1 h.2.1 (nums x) (by rw [nums_length]; omega) (fun k hk => by
    unfold nums at hk
    rw [List.mem_map] at hk
    obtain ⟨y, hy, rfl⟩ := hk
    have := hl y hy
    have := h.2.2
    show (0 : Int) ≤ (y : Int) ∧ (y : Int) < _
    omega))
set_option maxHeartbeats 8000000 in
set_option maxRecDepth 100000 in
theorem sackbutref06_Lead.calls (a0 : Int) (A1 : Option Addr) (c1 : Nat) (l1 : List Int) (A2 : Option Addr) (c2 : Nat) (l2 : List Int) (r : List Int) (w : World) (hr1 : Kd.C (Kd.int .i64) w A1 l1.length l1) (hc1 : l1.length ≤ c1) (hr2 : Kd.C (Kd.int .i64) w A2 l2.length l2) (hc2 : l2.length ≤ c2) (h : sackbutref06_Lead.f a0 l1 l2 = some r) :
    Calls Try.prog 22 #[.int .i64 a0, .slice A1 l1.length c1, .slice A2 l2.length c2] w fun e w' => ∃ v0_ : Value, e = .returned v0_ ∧ Kd.R (Kd.int .i64) 3 w' w.heap.size (fun _ => True) v0_ r ∧ Below w.heap.size w w' := by
  unfold sackbutref06_Lead.f at h
  by_cases hc : TwoN a0 l1 l2
  · rw [if_pos hc] at h
    have hres := Option.some.inj h
    have HRES := Aside0.mk hres
    have HT := Aside0.mk hc
    have HR1 := Aside0.mk hr1
    have HR2 := Aside0.mk hr2
    have HC1 := Aside0.mk hc1
    have HC2 := Aside0.mk hc2
    have hn1 := hc.1.2.2.1
    have hn6 := hc.1.2.2.2.1
    obtain ⟨LL, hLL⟩ : ∃ LL, rlead l1.length l1.length [] = LL := ⟨_, rfl⟩
    have HLL := Aside0.mk hLL
    have hrun := refLeads_calls l1.length hn6 w.heap.size l1.length none 0 [] w (by simp) (Nat.le_refl _) (Kd.R_nil _ _ _ _ _)
    rw [hLL] at hrun
    have HRUN := Aside0.mk hrun
    have HALL := Aside0.mk (show ∀ l ∈ LL, l.length = l1.length ∧ ∀ y ∈ l, y < l1.length from fun l hl => by
      rw [← hLL] at hl
      exact rlead_all l1.length [] (by simp) (by simp) l hl)
    have hlenLL : LL.length ≤ 46656 := by
      rw [← hLL]
      exact Nat.le_trans (rlead_len _ _) (Nat.le_trans (Nat.pow_le_pow_left hn6 _) (Nat.pow_le_pow_right (by omega) hn6))
    have hposLL : 0 < LL.length := by rw [← hLL]; exact List.length_pos_iff.2 (rlead_ne _ _ (by simp))
    have HPR := Aside0.mk (fun l hl => refPrice_nums hc l (HALL.out l hl).1 (HALL.out l hl).2)
    have q22 : ∀ (w : World) (a : Option Addr) (n c n' c' : Nat), (binOp .eql 22 (.slice a n c) (.slice none n' c')).run Try.prog w = .ok (.bool a.isNone) w := fun w a n c n' c' => Lib.run_eql_slice_nil w _ _ a n c n' c' Try.underlying22
    clear hr1 hr2 hc1 hc2 hc h hres hrun hLL
    go_enter Try.func22, Try.ntmps22
    go_wp2_with fail
    refine HRUN.out.mono ?_
    rintro e w1 ⟨v1, vs, rfl, ho1, ha1, hb1⟩
    have hvl := ha1.length
    obtain ⟨ad, c9, e1, hcell, hg1⟩ := own_some_ ho1 (by omega)
    subst e1
    rw [hvl] at ho1 ⊢
    have HA1 := Aside0.mk ha1
    have HC := Aside0.mk hcell
    have HB1 := Aside0.mk hb1
    have HG1 := Aside0.mk hg1
    clear ho1 ha1 hcell hb1 hvl HRUN hg1
    go_wp2
    go_loopg [7, 14] LL.length (fun gg s7 s14 wr => ∃ (i : Nat) (Ab : Option Addr) (cb : Nat), s14 = .int .i64 i ∧ s7 = .slice Ab (optL (rfold (prV a0 l1 l2) (LL.take i))).length cb ∧ Aside0 (i + gg = LL.length) ∧ Aside0 (Kd.R (Kd.int .i64) 3 wr w.heap.size (fun _ => True) (.slice Ab (optL (rfold (prV a0 l1 l2) (LL.take i))).length cb) (optL (rfold (prV a0 l1 l2) (LL.take i)))) ∧ Aside0 (Ab.isNone = (rfold (prV a0 l1 l2) (LL.take i)).isNone) ∧ Aside0 (Below w1.heap.size w1 wr))
    case atStart => exact ⟨0, none, 0, rfl, by simp [rfold, optL, nums], ⟨by omega⟩, ⟨Kd.R_nil _ _ _ _ _⟩, ⟨rfl⟩, ⟨Below.refl _ _⟩⟩
    case round =>
      obtain ⟨i, Ab, cb, rfl, rfl, HI, HR, HN, HB⟩ := hrel
      obtain ⟨wo, rfl⟩ : ∃ wo : World, wo = wr := ⟨wr, rfl⟩
      by_cases hlt : i < LL.length
      · have hltz : (i : Int) < (LL.length : Int) := by omega
        obtain ⟨l, hl⟩ : ∃ l, LL[i]? = some l := ⟨LL[i], List.getElem?_eq_getElem hlt⟩
        have hlm : l ∈ LL := List.mem_of_getElem? hl
        obtain ⟨vl, hvl, A, c, e, hRl⟩ := HA1.out.get i l hl
        subst e
        have hcell : wo.cell? (ad.add i) = some (.slice A (nums l).length c) := (HB.out.cell (p := ad.add i) (by rw [add_block_]; exact HG1.out)).trans (HC.out i _ hvl)
        have hRw := Kd.R_below hRl HB.out
        have HRL := Aside0.mk hRw
        have HRLC := Aside0.mk (Kd.R_reads' hRw)
        have HTK := Aside0.mk (show LL.take (i + 1) = LL.take i ++ [l] by rw [List.take_add_one, hl]; rfl)
        obtain ⟨kk, hkk⟩ := HPR.out l hlm
        have HP1 := Aside0.mk (fun (w2 : World) (hb : Below wo.heap.size wo w2) => sackbutref06_Price.calls kk a0 A1 c1 l1 A2 c2 l2 A c (nums l) (prV a0 l1 l2 l) w2 (Kd.C_below (Kd.C_below (Kd.C_below HR1.out HB1.out) (HB.out.mono HB1.out.size |> fun h => HB.out)) hb) HC1.out (Kd.C_below (Kd.C_below (Kd.C_below HR2.out HB1.out) HB.out) hb) HC2.out (Kd.C_below HRLC.out.2.2 hb) HRLC.out.2.1 hkk)
        have HAS := Aside0.mk (show A.isNone = false from by
          obtain ⟨ad5, e5, _⟩ := Kd.at_int HRLC.out.2.2 0 (by omega) (by rw [nums_length, (HALL.out l hlm).1]; omega)
          rw [e5]; rfl)
        clear hl hlm hvl hRl hRw hkk
        have HRF := Aside0.mk (show rfold (prV a0 l1 l2) (LL.take (i + 1)) = rstep (prV a0 l1 l2) (rfold (prV a0 l1 l2) (LL.take i)) l by rw [HTK.out, rfold_snoc])
        have HMEM := Aside0.mk (fun b (hb : rfold (prV a0 l1 l2) (LL.take i) = some b) => HPR.out b (List.mem_of_mem_take ((rfold_mem _ _ _ b hb).elim id (fun h => by cases h))))
        generalize rfold (prV a0 l1 l2) (LL.take i) = bo at HR HN HRF HMEM ⊢
        have HRLB := HRL
        cases bo with
        | none =>
          have hAb : Ab = none := by
            have := HN.out
            cases Ab with
            | none => rfl
            | some _ => cases this
          subst hAb
          have HF := Aside0.mk (show rfold (prV a0 l1 l2) (LL.take (i + 1)) = some l from HRF.out)
          clear HMEM HRF
          generalize hoz : (optL (none : Option (List Nat))).length = oz
          clear hoz
          go_wp2
          go_roundg (gk - 1)
          case measure => have := HI.out; omega
          case rel => exact ⟨i + 1, A, c, by go_num, by rw [HF.out]; rfl, ⟨by have := HI.out; omega⟩, ⟨by rw [HF.out]; exact HRL.out⟩, ⟨by rw [HF.out]; exact HAS.out⟩, HB⟩
        | some b =>
          obtain ⟨ab, hAb⟩ : ∃ ab, Ab = some ab := by
            have := HN.out
            cases Ab with
            | none => cases this
            | some ab => exact ⟨ab, rfl⟩
          subst hAb
          obtain ⟨kk2, hkk2⟩ := HMEM.out b rfl
          have HF := Aside0.mk (show rfold (prV a0 l1 l2) (LL.take (i + 1)) = if prV a0 l1 l2 l < prV a0 l1 l2 b then some l else some b from HRF.out)
          have HRB := Aside0.mk (show Kd.R (Kd.int .i64) 3 wo w.heap.size (fun _ => True) (.slice (some ab) (nums b).length cb) (nums b) from HR.out)
          have HRBC := Aside0.mk (Kd.R_reads' HRB.out)
          have HP2 := Aside0.mk (fun (w2 : World) (hb : Below wo.heap.size wo w2) => sackbutref06_Price.calls kk2 a0 A1 c1 l1 A2 c2 l2 (some ab) cb (nums b) (prV a0 l1 l2 b) w2 (Kd.C_below (Kd.C_below (Kd.C_below HR1.out HB1.out) HB.out) hb) HC1.out (Kd.C_below (Kd.C_below (Kd.C_below HR2.out HB1.out) HB.out) hb) HC2.out (Kd.C_below HRBC.out.2.2 hb) HRBC.out.2.1 hkk2)
          clear HMEM HRF hkk2
          rw [show optL (some b) = nums b from rfl]
          generalize hlb : (nums b).length = lb at *
          have HLB := Aside0.mk hlb
          clear hlb
          generalize hp1 : prV a0 l1 l2 l = p1 at *
          have HP1E := Aside0.mk hp1
          clear hp1
          generalize hp2 : prV a0 l1 l2 b = p2 at *
          have HP2E := Aside0.mk hp2
          clear hp2
          by_cases hlt2 : p1 < p2
          · have q1 : decide (p1 < p2) = true := decide_eq_true hlt2
            rw [if_pos hlt2] at HF
            clear hlt2
            go_wp2_with fail
            refine (HP1.out _ (Below.refl _ _)).mono ?_
            rintro e w2 ⟨rfl, hb2⟩
            have HB2 := Aside0.mk hb2
            clear hb2
            go_wp2_with fail
            refine (HP2.out _ HB2.out).mono ?_
            rintro e w3 ⟨rfl, hb3⟩
            have HB3 := Aside0.mk (HB2.out.trans (hb3.mono HB2.out.size))
            clear hb3
            go_wp2
            go_roundg (gk - 1)
            case measure => have := HI.out; omega
            case rel => exact ⟨i + 1, A, c, by go_num, by rw [HF.out]; rfl, ⟨by have := HI.out; omega⟩, ⟨by rw [HF.out]; exact Kd.R_below HRL.out HB3.out⟩, ⟨by rw [HF.out]; exact HAS.out⟩, ⟨HB.out.trans (HB3.out.mono HB.out.size)⟩⟩
          · have q1 : decide (p1 < p2) = false := decide_eq_false hlt2
            rw [if_neg hlt2] at HF
            clear hlt2
            go_wp2_with fail
            refine (HP1.out _ (Below.refl _ _)).mono ?_
            rintro e w2 ⟨rfl, hb2⟩
            have HB2 := Aside0.mk hb2
            clear hb2
            go_wp2_with fail
            refine (HP2.out _ HB2.out).mono ?_
            rintro e w3 ⟨rfl, hb3⟩
            have HB3 := Aside0.mk (HB2.out.trans (hb3.mono HB2.out.size))
            clear hb3
            go_wp2
            go_roundg (gk - 1)
            case measure => have := HI.out; omega
            case rel => exact ⟨i + 1, some ab, cb, by go_num, by rw [HF.out, ← HLB.out]; rfl, ⟨by have := HI.out; omega⟩, ⟨by rw [HF.out]; have h5 := Kd.R_below HRB.out HB3.out; rw [← HLB.out] at h5; exact h5⟩, ⟨by rw [HF.out]; rfl⟩, ⟨HB.out.trans (HB3.out.mono HB.out.size)⟩⟩
      · have hil : i = LL.length := by have := HI.out; omega
        have HIL := Aside0.mk hil
        clear hil
        have hltz : ¬ (i : Int) < (LL.length : Int) := by omega
        have HFIN := Aside0.mk (show rfold (prV a0 l1 l2) (LL.take i) = (bestV a0 l1 l2).1 by
          rw [HIL.out, List.take_length, ← HLL.out]; exact (best_ref a0 l1 l2).1)
        go_wp2
        go_ret
        refine ⟨_, rfl, ?_, HB1.out.trans (HB.out.mono HB1.out.size)⟩
        have h1 := HR.out
        rw [HFIN.out] at h1
        rw [← HRES.out, ← HFIN.out]
        rw [← HFIN.out] at h1
        exact h1
  · rw [if_neg hc] at h; cases h

end Go.Proofs.Ytdnjbjcfbdclfaa.P
namespace Go.Proofs.Ytdnjbjcfbdclfaa.P
open Go.RowKit Go.Proofs.YtdnjbjcfbdclfaaW.PrintWords Go.Proofs.YtdnjbjcfbdclfaaW.PrintLast Go.Proofs.YtdnjbjcfbdclfaaW.PrintMore
attribute [local go_sem] max2_int min2_int max_two min_two max_three min_three max_four min_four   -- for this text's walks alone
set_option linter.unusedVariables false
set_option linter.unusedSimpArgs false

/-! ### sackbutref06_Cost: function 20 -/
def sackbutref06_Cost.f (k : Nat) (a0 : Int) (l1 : List Int) (l2 : List Int) : Option (Int) := (sackbutref06_Lead.f a0 l1 l2).bind fun t1001 => ((sackbutref06_Price.f k a0 l1 l2 t1001).bind fun t1004 => (some t1004))
theorem sackbutref06_Cost.mono : ∀ a0 a1 a2 k, LeO (sackbutref06_Cost.f k a0 a1 a2) (sackbutref06_Cost.f (k + 1) a0 a1 a2) := by
  intro a0 a1 a2 k
  unfold sackbutref06_Cost.f
  repeat' first
      | (with_reducible exact sackbutref06_Price.mono _ _ _ _ _)
      | (with_reducible exact LeO.refl _)
      | (with_reducible exact LeO.none _)
      | (with_reducible refine LeO.ite ?_ ?_)
      | (with_reducible refine LeO.bind ?_ (fun _ => ?_))
      | exact sackbutref06_Price.mono _ _ _ _ _
      | exact LeO.none _
      | refine LeO.ite ?_ ?_
      | refine LeO.bind ?_ (fun _ => ?_)
set_option maxHeartbeats 8000000 in
set_option maxRecDepth 100000 in
theorem sackbutref06_Cost.calls (k : Nat) (a0 : Int) (A1 : Option Addr) (c1 : Nat) (l1 : List Int) (A2 : Option Addr) (c2 : Nat) (l2 : List Int) (r : Int) (w : World) (hr1 : Kd.C (Kd.int .i64) w A1 l1.length l1) (hc1 : l1.length ≤ c1) (hr2 : Kd.C (Kd.int .i64) w A2 l2.length l2) (hc2 : l2.length ≤ c2) (h : sackbutref06_Cost.f k a0 l1 l2 = some r) :
    Calls Try.prog 20 #[.int .i64 a0, .slice A1 l1.length c1, .slice A2 l2.length c2] w fun e w' => e = .returned (.int .i64 r) ∧ Below w.heap.size w w' := by
  have HR1 := Aside0.mk hr1
  have HC1 := Aside0.mk hc1
  clear hr1 hc1
  have HR2 := Aside0.mk hr2
  have HC2 := Aside0.mk hc2
  clear hr2 hc2
  have HB := Aside0.mk (Below.refl w.heap.size w)
  have H : ((sackbutref06_Lead.f a0 l1 l2).bind fun t1001 => ((sackbutref06_Price.f k a0 l1 l2 t1001).bind fun t1004 => (some t1004))) = some r := h
  clear h
  replace H := Option.bind_eq_some_iff.mp H
  obtain ⟨t1001, A40, H⟩ := H
  replace H : ((sackbutref06_Price.f k a0 l1 l2 t1001).bind fun t1004 => (some t1004)) = some r := H
  have A4 := Aside0.mk A40
  clear A40
  replace H := Option.bind_eq_some_iff.mp H
  obtain ⟨t1004, A50, H⟩ := H
  replace H : (some t1004) = some r := H
  have A5 := Aside0.mk A50
  clear A50
  obtain rfl := Option.some.inj H
  go_enter Try.func20, Try.ntmps20
  go_wp2_with (first | ((with_reducible refine gate_callee (f := 22) rfl ?_); refine goesL_ (some 13) rfl rfl Try.func22 (by kernel_rfl) rfl #[.int .i64 a0, .slice A1 l1.length c1, .slice A2 l2.length c2] rfl (by (try simp only [List.map_toArray, List.map_cons, List.map_nil]); first | done | rfl | (simp only [List.length_drop, List.length_take]; rfl)) ?_; (with_reducible refine (sackbutref06_Lead.calls a0 _ _ l1 _ _ l2 t1001 _ ?side1 ?side2 ?side3 ?side4 A4.out).mono ?_); (case side1 => repeat (first | exact HR1.out | (with_reducible refine Kd.C_alloc ?_ _) | (with_reducible refine Kd.C_drewN ?_ _) | (with_reducible refine Kd.C_drew ?_))); (case side2 => exact HC1.out); (case side3 => repeat (first | exact HR2.out | (with_reducible refine Kd.C_alloc ?_ _) | (with_reducible refine Kd.C_drewN ?_ _) | (with_reducible refine Kd.C_drew ?_))); (case side4 => exact HC2.out); rintro e w6 ⟨v1002, rfl, ho0, hb⟩; refine ⟨_, rfl, ?_⟩; have n0_ := Aside0.mk (Kd.R_lower ho0 (below_size (by repeat (first | (with_reducible first | exact HB.out | apply below_alloc | apply pw_below_drewN | apply below_drew1) | exact HB.out)))); have n1_ := Aside0.mk (below_step (by repeat (first | (with_reducible first | exact HB.out | apply below_alloc | apply pw_below_drewN | apply below_drew1) | exact HB.out)) hb); clear HB; have HO1003 := n0_; have HB := n1_; clear n0_ n1_; (try clear hb); (try clear hb2); (try clear hk); (try clear hi); (try clear ho0); obtain ⟨Ao7, co7, eo7⟩ := Kd.R_slice HO1003.out; subst eo7) | ((with_reducible refine gate_callee (f := 27) rfl ?_); refine goesL_ (some 14) rfl rfl Try.func27 (by kernel_rfl) rfl #[.int .i64 a0, .slice A1 l1.length c1, .slice A2 l2.length c2, .slice Ao7 t1001.length co7] rfl (by (try simp only [List.map_toArray, List.map_cons, List.map_nil]); first | done | rfl | (simp only [List.length_drop, List.length_take]; rfl)) ?_; (with_reducible refine (sackbutref06_Price.calls k a0 _ _ l1 _ _ l2 _ _ t1001 t1004 _ ?side1 ?side2 ?side3 ?side4 ?side5 ?side6 A5.out).mono ?_); (case side1 => repeat (first | exact (Kd.C_below HR1.out HB.out) | (with_reducible refine Kd.C_alloc ?_ _) | (with_reducible refine Kd.C_drewN ?_ _) | (with_reducible refine Kd.C_drew ?_))); (case side2 => exact HC1.out); (case side3 => repeat (first | exact (Kd.C_below HR2.out HB.out) | (with_reducible refine Kd.C_alloc ?_ _) | (with_reducible refine Kd.C_drewN ?_ _) | (with_reducible refine Kd.C_drew ?_))); (case side4 => exact HC2.out); (case side5 => repeat (first | exact (Kd.R_reads' HO1003.out).2.2 | (with_reducible refine Kd.C_alloc ?_ _) | (with_reducible refine Kd.C_drewN ?_ _) | (with_reducible refine Kd.C_drew ?_))); (case side6 => exact (Kd.R_reads' HO1003.out).2.1); rintro e w8 ⟨rfl, hb⟩; refine ⟨_, rfl, ?_⟩; have n0_ := Aside0.mk (Kd.R_below (by (with_reducible repeat (first | apply Kd.R_alloc | apply Kd.R_drewN | apply Kd.R_drew)); exact HO1003.out) hb); have n1_ := Aside0.mk (below_step (by repeat (first | (with_reducible first | exact HB.out | apply below_alloc | apply pw_below_drewN | apply below_drew1) | exact HB.out)) hb); clear HO1003; clear HB; have HO1003 := n0_; have HB := n1_; clear n0_ n1_; (try clear hb); (try clear hb2); (try clear hk); (try clear hi)))
  go_ret
  exact ⟨by first | rfl | (simp [errW_none, errW_some] <;> rfl) | (simp [*, errW_none, errW_some] <;> rfl), by repeat (first | (with_reducible first | exact HB.out | apply below_alloc | apply pw_below_drewN | apply below_drew1) | exact HB.out)⟩

end Go.Proofs.Ytdnjbjcfbdclfaa.P
namespace Go.Proofs.Ytdnjbjcfbdclfaa.P
open Go.RowKit Go.Proofs.YtdnjbjcfbdclfaaW.PrintWords Go.Proofs.YtdnjbjcfbdclfaaW.PrintLast Go.Proofs.YtdnjbjcfbdclfaaW.PrintMore
attribute [local go_sem] max2_int min2_int max_two min_two max_three min_three max_four min_four   -- for this text's walks alone
set_option linter.unusedVariables false
set_option linter.unusedSimpArgs false

/-! the best leading is one -/
theorem rstep_some (pr : List Nat → Int) : ∀ (L : List (List Nat)) (b : List Nat), ∃ c, L.foldl (rstep pr) (some b) = some c
  | [], b => ⟨b, rfl⟩
  | l :: L, b => by
    rw [List.foldl_cons]
    unfold rstep
    simp only
    split
    · exact rstep_some pr L l
    · exact rstep_some pr L b
theorem rfold_some (pr : List Nat → Int) {L : List (List Nat)} (h : L ≠ []) : ∃ b ∈ L, rfold pr L = some b := by
  cases L with
  | nil => exact absurd rfl h
  | cons l L =>
    obtain ⟨c, hc⟩ := rstep_some pr L l
    have e : rfold pr (l :: L) = some c := hc
    refine ⟨c, ?_, e⟩
    exact (rfold_mem pr (l :: L) none c e).elim id (fun h => by cases h)
theorem bestV_some {n : Int} {a b : List Int} (h : TwoN n a b) : ∃ l, (bestV n a b).1 = some l ∧ (bestV n a b).2 = prV n a b l ∧ l.length = a.length ∧ ∀ y ∈ l, y < a.length := by
  obtain ⟨l, hl, e⟩ := rfold_some (prV n a b) (rlead_ne (k := a.length) a.length [] (by simp))
  obtain ⟨h1, h2⟩ := best_ref n a b
  rw [h1] at e
  have := rlead_all a.length [] (by simp) (by simp) l hl
  exact ⟨l, e, h2 l e, this.1, this.2⟩
theorem refCost_ev {n : Int} {a b : List Int} (h : TwoN n a b) : Ev (fun k => sackbutref06_Cost.f k n a b) (bestV n a b).2 := by
  obtain ⟨l, e1, e2, h1, h2⟩ := bestV_some h
  have e : sackbutref06_Lead.f n a b = some (nums l) := by unfold sackbutref06_Lead.f; rw [if_pos h, e1]; rfl
  unfold sackbutref06_Cost.f
  refine Ev.bind_some e ?_
  rw [e2]
  exact Ev.bind (refPrice_ev h.1 h.2.1 (nums l) (by rw [nums_length]; omega) (fun k hk => by
    unfold nums at hk
    rw [List.mem_map] at hk
    obtain ⟨y, hy, rfl⟩ := hk
    have := h2 y hy
    have := h.2.2
    show (0 : Int) ≤ (y : Int) ∧ (y : Int) < _
    omega)) (Ev.some _)

end Go.Proofs.Ytdnjbjcfbdclfaa.P
namespace Go.Proofs.Ytdnjbjcfbdclfaa.P
open Go.RowKit Go.Proofs.YtdnjbjcfbdclfaaW.PrintWords Go.Proofs.YtdnjbjcfbdclfaaW.PrintLast Go.Proofs.YtdnjbjcfbdclfaaW.PrintMore
attribute [local go_sem] max2_int min2_int max_two min_two max_three min_three max_four min_four   -- for this text's walks alone
set_option linter.unusedVariables false
set_option linter.unusedSimpArgs false

/-! a least leading without crossing: two crossing voices exchange their tones -/
theorem ds_le {n x y m c : Int} (hn : 2 ≤ n) (hm : m = (y - x) + n * c) : dsN n x y ≤ max m (-m) := by
  have h1 := Int.emod_nonneg (y - x) (show n ≠ 0 by omega)
  have h2 := Int.emod_lt_of_pos (y - x) (show 0 < n by omega)
  have h3 := Int.mul_ediv_add_emod (y - x) n
  obtain ⟨e, he⟩ : ∃ e, e = (y - x) / n + c := ⟨_, rfl⟩
  have h4 : m = (y - x) % n + n * e := by rw [he, Int.mul_add]; omega
  unfold dsN mvN
  generalize (y - x) % n = r at *
  rcases Int.lt_or_le e 0 with h | h
  · have : n * e ≤ n * (-1) := Int.mul_le_mul_of_nonneg_left (by omega) (by omega)
    rw [show n * (-1) = -n by omega] at this
    generalize n * e = u at *
    split <;> omega
  · have : 0 ≤ n * e := Int.mul_nonneg (by omega) h
    generalize n * e = u at *
    split <;> omega
theorem cross_shift {n p q am bm : Int} (h : crB n p am q bm = true) : ∃ t u : Int, u = t * n - (p - q) ∧ ((0 < u ∧ u < am - bm) ∨ (u < 0 ∧ am - bm < u)) := by
  unfold crB rtB at h
  simp only [Bool.and_eq_true, Bool.or_eq_true, decide_eq_true_eq, Bool.or_false] at h
  rcases h.2 with h | h | h | h | h
  · exact ⟨-2, _, rfl, h⟩
  · exact ⟨-1, _, rfl, h⟩
  · exact ⟨0, _, rfl, h⟩
  · exact ⟨1, _, rfl, h⟩
  · exact ⟨2, _, rfl, h⟩
theorem mv_cong (n x y : Int) : ∃ c, mvN n x y = (y - x) + n * c := by
  have h3 := Int.mul_ediv_add_emod (y - x) n
  unfold mvN
  split
  · refine ⟨-((y - x) / n) - 1, ?_⟩
    rw [Int.mul_sub, Int.mul_neg]; omega
  · refine ⟨-((y - x) / n), ?_⟩
    rw [Int.mul_neg]; omega
theorem sq_le {a m : Int} (h0 : 0 ≤ a) (h : a ≤ max m (-m)) : a * a ≤ m * m := by
  rcases Int.le_total 0 m with hm | hm
  · exact Int.mul_le_mul (by omega) (by omega) h0 hm
  · have := Int.mul_le_mul (show a ≤ -m by omega) (show a ≤ -m by omega) h0 (by omega)
    rwa [Int.neg_mul_neg] at this
theorem ds_sq (n x y : Int) : dsN n x y * dsN n x y = mvN n x y * mvN n x y := by
  unfold dsN
  generalize mvN n x y = m
  rcases Int.le_total 0 m with hm | hm
  · rw [show max m (-m) = m by omega]
  · rw [show max m (-m) = -m by omega, Int.neg_mul_neg]
/-- the exchange -/
theorem swap_num {n p q y z : Int} (hn : 2 ≤ n) (h : crB n p (mvN n p y) q (mvN n q z) = true) :
    dsN n p z + dsN n q y ≤ dsN n p y + dsN n q z ∧ dsN n p z * dsN n p z + dsN n q y * dsN n q y < dsN n p y * dsN n p y + dsN n q z * dsN n q z := by
  obtain ⟨t, u, hu, hc⟩ := cross_shift h
  obtain ⟨c1, h1⟩ := mv_cong n p y
  obtain ⟨c2, h2⟩ := mv_cong n q z
  have e1 : dsN n p z ≤ max (mvN n q z + u) (-(mvN n q z + u)) := ds_le (c := c2 + t) hn (by rw [Int.mul_add, Int.mul_comm n t]; omega)
  have e2 : dsN n q y ≤ max (mvN n p y - u) (-(mvN n p y - u)) := ds_le (c := c1 - t) hn (by rw [Int.mul_sub, Int.mul_comm n t]; omega)
  have s1 := sq_le (dsN_bd (x := p) (y := z) hn).1 e1
  have s2 := sq_le (dsN_bd (x := q) (y := y) hn).1 e2
  rw [ds_sq n p y, ds_sq n q z]
  have d1 : dsN n p y = max (mvN n p y) (-(mvN n p y)) := rfl
  have d2 : dsN n q z = max (mvN n q z) (-(mvN n q z)) := rfl
  rw [d1, d2]
  generalize mvN n p y = am at *
  generalize mvN n q z = bm at *
  have hpos : 0 < u * (am - bm - u) := by
    rcases hc with hc | hc
    · exact Int.mul_pos hc.1 (by omega)
    · exact Int.mul_pos_of_neg_of_neg hc.1 (by omega)
  refine ⟨by omega, ?_⟩
  have x1 : (bm + u) * (bm + u) = bm * bm + 2 * (u * bm) + u * u := by
    rw [Int.add_mul, Int.mul_add, Int.mul_add, Int.mul_comm bm u]; omega
  have x2 : (am - u) * (am - u) = am * am - 2 * (u * am) + u * u := by
    rw [Int.sub_mul, Int.mul_sub, Int.mul_sub, Int.mul_comm am u]; omega
  have x3 : u * (am - bm - u) = u * am - u * bm - u * u := by rw [Int.mul_sub, Int.mul_sub]
  omega
def sumF (f : Nat → Nat → Int) : List Nat → Nat → Int
  | [], _ => 0
  | y :: l, i => f i y + sumF f l (i + 1)
theorem sumF_set (f : Nat → Nat → Int) : ∀ (l : List Nat) (s i : Nat) (y : Nat) (h : i < l.length), sumF f (l.set i y) s = sumF f l s - f (s + i) l[i] + f (s + i) y
  | [], _, _, _, h => by simp at h
  | x :: l, s, 0, y, h => by simp only [List.set_cons_zero, sumF, List.getElem_cons_zero, Nat.add_zero]; omega
  | x :: l, s, i + 1, y, h => by
    simp only [List.set_cons_succ, sumF, List.getElem_cons_succ]
    rw [sumF_set f l (s + 1) i y (by simpa using h), show s + 1 + i = s + (i + 1) by omega]
    omega
theorem sumF_swap (f : Nat → Nat → Int) (l : List Nat) (i j : Nat) (hi : i < l.length) (hj : j < l.length) (hne : i ≠ j) :
    sumF f ((l.set i l[j]).set j l[i]) 0 = sumF f l 0 - f i l[i] - f j l[j] + f i l[j] + f j l[i] := by
  rw [sumF_set f _ 0 j l[i] (by simpa using hj), sumF_set f l 0 i l[j] hi]
  simp only [Nat.zero_add]
  rw [List.getElem_set_ne hne]
  omega
theorem prI_sumF (n : Int) (a b : List Int) : ∀ (l : List Nat) (i : Nat), prI n a b (nums l) i = sumF (fun i y => dsN n (toneI a i) (toneI b y)) l i
  | [], _ => rfl
  | y :: l, i => by
    show dsN n (a.getD i 0) (b.getD (y : Int).toNat 0) + prI n a b (nums l) (i + 1) = _
    rw [prI_sumF n a b l (i + 1)]; rfl
theorem min_two_keys (f g : List Nat → Int) : ∀ (L : List (List Nat)), L ≠ [] → ∃ x ∈ L, ∀ y ∈ L, f x < f y ∨ (f x = f y ∧ g x ≤ g y)
  | [], h => absurd rfl h
  | [x], _ => ⟨x, by simp, fun y hy => by simp at hy; subst hy; exact .inr ⟨rfl, Int.le_refl _⟩⟩
  | x :: z :: L, _ => by
    obtain ⟨m, hm, h⟩ := min_two_keys f g (z :: L) (by simp)
    by_cases hx : f x < f m ∨ (f x = f m ∧ g x ≤ g m)
    · refine ⟨x, by simp, fun y hy => ?_⟩
      rcases List.mem_cons.1 hy with rfl | hy
      · exact .inr ⟨rfl, Int.le_refl _⟩
      · have := h y hy; omega
    · refine ⟨m, by simp at hm ⊢; exact .inr hm, fun y hy => ?_⟩
      rcases List.mem_cons.1 hy with rfl | hy
      · omega
      · exact h y hy
/-- all leadings -/
theorem rlead_mem {k : Nat} : ∀ (r : Nat) (cur x : List Nat), cur.length + r = k → (x ∈ rlead k r cur ↔ ∃ s, x = cur ++ s ∧ s.length = r ∧ (∀ y ∈ s, y < k ∧ y ∉ cur) ∧ s.Nodup)
  | 0, cur, x, h => by
    simp only [rlead, List.mem_singleton]
    constructor
    · rintro rfl; exact ⟨[], by simp, rfl, by simp, by simp⟩
    · rintro ⟨s, rfl, hs, _⟩
      have : s = [] := List.eq_nil_of_length_eq_zero hs
      simp [this]
  | r + 1, cur, x, h => by
    simp only [rlead, List.mem_flatMap, List.mem_range]
    constructor
    · rintro ⟨y, hy, hx⟩
      split at hx
      · cases hx
      · rename_i hc
        obtain ⟨s, rfl, hs, hs2, hs3⟩ := (rlead_mem r (cur ++ [y]) x (by rw [List.length_append, List.length_singleton]; omega)).1 hx
        refine ⟨y :: s, by simp, by simp [hs], fun z hz => ?_, ?_⟩
        · rcases List.mem_cons.1 hz with rfl | hz
          · exact ⟨hy, hc⟩
          · exact ⟨(hs2 z hz).1, fun h => (hs2 z hz).2 (by simp [h])⟩
        · rw [List.nodup_cons]
          exact ⟨fun h => (hs2 y h).2 (by simp), hs3⟩
    · rintro ⟨s, rfl, hs, hs2, hs3⟩
      cases s with
      | nil => simp at hs
      | cons y s =>
        rw [List.nodup_cons] at hs3
        have hy := hs2 y (by simp)
        refine ⟨y, hy.1, ?_⟩
        rw [if_neg hy.2]
        refine (rlead_mem r (cur ++ [y]) _ (by rw [List.length_append, List.length_singleton]; omega)).2 ⟨s, by simp, by simpa using hs, fun z hz => ⟨(hs2 z (by simp [hz])).1, fun h => ?_⟩, hs3.2⟩
        rcases List.mem_append.1 h with h | h
        · exact (hs2 z (by simp [hz])).2 h
        · rw [List.mem_singleton] at h; subst h; exact hs3.1 hz
theorem all_mem {k : Nat} {x : List Nat} : x ∈ rlead k k [] ↔ x.length = k ∧ (∀ y ∈ x, y < k) ∧ x.Nodup := by
  rw [rlead_mem k [] x (by simp)]
  constructor
  · rintro ⟨s, rfl, h1, h2, h3⟩; exact ⟨h1, fun y hy => (h2 y hy).1, h3⟩
  · rintro ⟨h1, h2, h3⟩; exact ⟨x, rfl, h1, fun y hy => ⟨h2 y hy, by simp⟩, h3⟩
def LexLT (y z : List Nat) : Prop := ∃ (p : List Nat) (u v : Nat) (s t : List Nat), y = p ++ u :: s ∧ z = p ++ v :: t ∧ u < v
theorem rlead_lex {k : Nat} : ∀ (r : Nat) (cur : List Nat), cur.length + r = k → List.Pairwise LexLT (rlead k r cur)
  | 0, cur, _ => by simp [rlead]
  | r + 1, cur, h => by
    unfold rlead
    rw [List.pairwise_flatMap]
    have hl : ∀ x : Nat, (cur ++ [x]).length + r = k := fun x => by rw [List.length_append, List.length_singleton]; omega
    refine ⟨fun x hx => ?_, ?_⟩
    · split
      · exact List.Pairwise.nil
      · exact rlead_lex r (cur ++ [x]) (hl x)
    · refine List.Pairwise.imp ?_ List.pairwise_lt_range
      intro x y hxy a ha b hb
      split at ha
      · cases ha
      · split at hb
        · cases hb
        · obtain ⟨s, rfl, _⟩ := (rlead_mem r _ a (hl x)).1 ha
          obtain ⟨t, rfl, _⟩ := (rlead_mem r _ b (hl y)).1 hb
          exact ⟨cur, x, y, s, t, by simp, by simp, hxy⟩
theorem find_lex {k : Nat} {p : List Nat → Bool} {x o : List Nat} (hf : (rlead k k []).find? p = some x) (ho : o ∈ rlead k k []) (hp : p o = true) : x = o ∨ LexLT x o := by
  have hP := rlead_lex k (k := k) [] (by simp)
  obtain ⟨_, us, vs, e, hn⟩ := List.find?_eq_some_iff_append.1 hf
  rw [e] at hP ho
  rcases List.mem_append.1 ho with h | h
  · have := hn o h; rw [hp] at this; cases this
  · rcases List.mem_cons.1 h with h | h
    · exact .inl h.symm
    · rw [List.pairwise_append] at hP
      exact .inr ((List.pairwise_cons.1 hP.2.1).1 o h)

theorem rstep_min (pr : List Nat → Int) : ∀ (L : List (List Nat)) (s : Option (List Nat)) (b : List Nat), L.foldl (rstep pr) s = some b → (∀ y ∈ L, pr b ≤ pr y) ∧ ∀ c, s = some c → pr b ≤ pr c
  | [], s, b, h => ⟨fun y hy => (by cases hy), fun c hc => (by rw [List.foldl_nil] at h; rw [h] at hc; cases hc; exact Int.le_refl _)⟩
  | l :: L, s, b, h => by
    rw [List.foldl_cons] at h
    obtain ⟨h1, h2⟩ := rstep_min pr L _ b h
    unfold rstep at h2
    cases s with
    | none =>
      have h3 := h2 l rfl
      exact ⟨fun y hy => (List.mem_cons.1 hy).elim (fun e => e ▸ h3) (h1 y), fun c hc => by cases hc⟩
    | some c =>
      simp only at h2
      by_cases hlt : pr l < pr c
      · rw [if_pos hlt] at h2
        have h3 := h2 l rfl
        exact ⟨fun y hy => (List.mem_cons.1 hy).elim (fun e => e ▸ h3) (h1 y), fun d hd => by cases hd; omega⟩
      · rw [if_neg hlt] at h2
        have h3 := h2 c rfl
        exact ⟨fun y hy => (List.mem_cons.1 hy).elim (fun e => by rw [e]; omega) (h1 y), fun d hd => by cases hd; exact h3⟩
theorem bestV_min {n : Int} {a b : List Int} (h : TwoN n a b) : ∃ l ∈ rlead a.length a.length [], (bestV n a b).2 = prV n a b l ∧ ∀ y ∈ rlead a.length a.length [], prV n a b l ≤ prV n a b y := by
  obtain ⟨l, hl, e⟩ := rfold_some (prV n a b) (rlead_ne (k := a.length) a.length [] (by simp))
  obtain ⟨h1, h2⟩ := best_ref n a b
  have e2 := e
  rw [h1] at e
  exact ⟨l, hl, h2 l e, (rstep_min (prV n a b) _ none l e2).1⟩
/-- a leading with the least price and no crossing there is -/
theorem calm_exists {n : Int} {a b : List Int} (h : TwoN n a b) : ∃ x ∈ rlead a.length a.length [], prV n a b x = (bestV n a b).2 ∧ ¬ CrossP n a b (nums x) := by
  obtain ⟨l, hl, e, hmin⟩ := bestV_min h
  obtain ⟨x, hx, hm⟩ := min_two_keys (prV n a b) (fun x => sumF (fun i y => dsN n (toneI a i) (toneI b y) * dsN n (toneI a i) (toneI b y)) x 0) _ (rlead_ne (k := a.length) a.length [] (by simp))
  refine ⟨x, hx, ?_, ?_⟩
  · have h1 := hm l hl
    have h2 := hmin x hx
    omega
  · rintro ⟨i, hi, j, hj, hc⟩
    obtain ⟨x1, x2, x3⟩ := all_mem.1 hx
    have hi' : i < x.length := by omega
    have hj' : j < x.length := by omega
    have hne : i ≠ j := by rintro rfl; rw [crF_self] at hc; cases hc
    have ei : ∀ i (hi : i < x.length), (toneI (nums x) i).toNat = x[i] := fun i hi => by
      unfold toneI nums
      rw [List.getD_eq_getElem?_getD, List.getElem?_map, List.getElem?_eq_getElem hi]
      rfl
    unfold crF mvAt at hc
    rw [ei i hi', ei j hj'] at hc
    obtain ⟨s1, s2⟩ := swap_num h.1.1 hc
    have hp := List.set_set_perm hi' hj'
    have hs := hm ((x.set i x[j]).set j x[i]) (all_mem.2 ⟨by rw [hp.length_eq]; exact x1, fun y hy => x2 y (hp.mem_iff.1 hy), hp.nodup_iff.2 x3⟩)
    unfold prV at hs
    rw [prI_sumF, prI_sumF, sumF_swap _ x i j hi' hj' hne, sumF_swap _ x i j hi' hj' hne] at hs
    omega

end Go.Proofs.Ytdnjbjcfbdclfaa.P
namespace Go.Proofs.Ytdnjbjcfbdclfaa.P
open Go.RowKit Go.Proofs.YtdnjbjcfbdclfaaW.PrintWords Go.Proofs.YtdnjbjcfbdclfaaW.PrintLast Go.Proofs.YtdnjbjcfbdclfaaW.PrintMore
attribute [local go_sem] max2_int min2_int max_two min_two max_three min_three max_four min_four   -- for this text's walks alone
set_option linter.unusedVariables false
set_option linter.unusedSimpArgs false

/-! the cost is the least sum over the orders of the other voicing's tones -/
def sumZ (n : Int) : List Int → List Int → Int
  | x :: a, y :: c => dsN n x y + sumZ n a c
  | _, _ => 0
theorem perm_lift {α β : Type} (f : α → β) {c d : List β} (h : c.Perm d) : ∀ l : List α, d = l.map f → ∃ x : List α, x.Perm l ∧ c = x.map f := by
  induction h with
  | nil => intro l hl; exact ⟨[], (by cases l with | nil => exact List.Perm.nil | cons _ _ => cases hl), rfl⟩
  | cons x h ih =>
    intro l hl
    cases l with
    | nil => cases hl
    | cons y l =>
      rw [List.map_cons] at hl
      injection hl with h1 h2
      obtain ⟨z, hz, e⟩ := ih l h2
      exact ⟨y :: z, hz.cons y, by rw [List.map_cons, ← e, h1]⟩
  | swap x y t =>
    intro l hl
    match l, hl with
    | u :: v :: l, hl =>
      rw [List.map_cons, List.map_cons] at hl
      injection hl with h1 h2
      injection h2 with h2 h3
      exact ⟨v :: u :: l, List.Perm.swap u v l, by rw [List.map_cons, List.map_cons, h1, h2, h3]⟩
  | trans h1 h2 ih1 ih2 =>
    intro l hl
    obtain ⟨x, hx, e⟩ := ih2 l hl
    obtain ⟨y, hy, e2⟩ := ih1 x e
    exact ⟨y, hy.trans hx, e2⟩
def sumP (n : Int) (p : List (Int × Int)) : Int := (p.map fun q => dsN n q.1 q.2).sum
theorem sumZ_pairs (n : Int) : ∀ p : List (Int × Int), sumZ n (p.map Prod.fst) (p.map Prod.snd) = sumP n p
  | [] => rfl
  | q :: p => by
    unfold sumP
    rw [List.map_cons, List.map_cons, List.map_cons, List.sum_cons, sumZ, sumZ_pairs n p]; rfl
theorem zip_pairs : ∀ (a c : List Int), a.length = c.length → (a.zip c).map Prod.fst = a ∧ (a.zip c).map Prod.snd = c
  | [], [], _ => ⟨rfl, rfl⟩
  | x :: a, y :: c, h => by
    obtain ⟨h1, h2⟩ := zip_pairs a c (by simpa using h)
    rw [List.zip_cons_cons, List.map_cons, List.map_cons, h1, h2]
    exact ⟨rfl, rfl⟩
theorem sum_perm9 {l l' : List Int} (h : l.Perm l') : l.sum = l'.sum := by
  induction h with
  | nil => rfl
  | cons x _ ih => rw [List.sum_cons, List.sum_cons, ih]
  | swap x y l => simp only [List.sum_cons]; omega
  | trans _ _ ih1 ih2 => exact ih1.trans ih2
theorem sumP_perm (n : Int) {p q : List (Int × Int)} (h : p.Perm q) : sumP n p = sumP n q := by
  have h2 := sum_perm9 (h.map (fun q => dsN n q.1 q.2))
  unfold sumP
  exact h2
/-- the first tones in another order -/
theorem sumZ_move {n : Int} {a a' c : List Int} (h : a'.Perm a) (hl : a.length = c.length) : ∃ c', c'.Perm c ∧ sumZ n a' c' = sumZ n a c := by
  obtain ⟨e1, e2⟩ := zip_pairs a c hl
  obtain ⟨p, hp, e⟩ := perm_lift Prod.fst h (a.zip c) e1.symm
  refine ⟨p.map Prod.snd, ?_, ?_⟩
  · have := hp.map Prod.snd
    rwa [e2] at this
  · rw [e, sumZ_pairs, sumP_perm n hp, ← sumZ_pairs, e1, e2]
theorem ds_symm {n x y : Int} (hn : 2 ≤ n) : dsN n x y = dsN n y x := by
  have h : ∀ x y : Int, dsN n x y ≤ dsN n y x := fun x y => by
    obtain ⟨c, hc⟩ := mv_cong n y x
    have := ds_le (n := n) (x := x) (y := y) (m := -(mvN n y x)) (c := -c) hn (by rw [Int.mul_neg]; omega)
    have e : dsN n y x = max (mvN n y x) (-(mvN n y x)) := rfl
    omega
  exact Int.le_antisymm (h x y) (h y x)
theorem sumZ_symm {n : Int} (hn : 2 ≤ n) : ∀ a c : List Int, sumZ n a c = sumZ n c a
  | [], [] => rfl
  | [], _ :: _ => rfl
  | _ :: _, [] => rfl
  | x :: a, y :: c => by unfold sumZ; rw [ds_symm hn, sumZ_symm hn a c]
theorem ds_tri {n x y z : Int} (hn : 2 ≤ n) : dsN n x z ≤ dsN n x y + dsN n y z := by
  obtain ⟨c1, h1⟩ := mv_cong n x y
  obtain ⟨c2, h2⟩ := mv_cong n y z
  have := ds_le (n := n) (x := x) (y := z) (m := mvN n x y + mvN n y z) (c := c1 + c2) hn (by rw [Int.mul_add]; omega)
  have e1 : dsN n x y = max (mvN n x y) (-(mvN n x y)) := rfl
  have e2 : dsN n y z = max (mvN n y z) (-(mvN n y z)) := rfl
  omega
theorem sumZ_tri {n : Int} (hn : 2 ≤ n) : ∀ a b c : List Int, a.length = b.length → b.length = c.length → sumZ n a c ≤ sumZ n a b + sumZ n b c
  | [], [], [], _, _ => by simp [sumZ]
  | x :: a, y :: b, z :: c, h1, h2 => by
    have := sumZ_tri hn a b c (by simpa using h1) (by simpa using h2)
    have := ds_tri (x := x) (y := y) (z := z) hn
    unfold sumZ
    omega
theorem sumZ_nonneg {n : Int} (hn : 2 ≤ n) : ∀ a c : List Int, 0 ≤ sumZ n a c
  | [], [] => Int.le_refl _
  | [], _ :: _ => Int.le_refl _
  | _ :: _, [] => Int.le_refl _
  | x :: a, y :: c => by
    have := sumZ_nonneg hn a c
    have := (dsN_bd (x := x) (y := y) hn).1
    unfold sumZ; omega
theorem ds_self {n x : Int} (hn : 2 ≤ n) : dsN n x x = 0 := by
  have := ds_le (n := n) (x := x) (y := x) (m := 0) (c := 0) hn (by simp)
  have := (dsN_bd (x := x) (y := x) hn).1
  omega
theorem ds_zero {n x y : Int} (hn : 2 ≤ n) (hx : 0 ≤ x ∧ x < n) (hy : 0 ≤ y ∧ y < n) (h : dsN n x y = 0) : x = y := by
  obtain ⟨c, hc⟩ := mv_cong n x y
  have e : dsN n x y = max (mvN n x y) (-(mvN n x y)) := rfl
  have h0 : mvN n x y = 0 := by omega
  rw [h0] at hc
  rcases Int.lt_trichotomy c 0 with h | h | h
  · have := Int.mul_le_mul_of_nonneg_left (show c ≤ -1 by omega) (show 0 ≤ n by omega)
    rw [Int.mul_neg, Int.mul_one] at this; omega
  · rw [h, Int.mul_zero] at hc; omega
  · have := Int.mul_le_mul_of_nonneg_left (show 1 ≤ c by omega) (show 0 ≤ n by omega)
    rw [Int.mul_one] at this; omega
theorem sumZ_self {n : Int} (hn : 2 ≤ n) : ∀ a : List Int, sumZ n a a = 0
  | [] => rfl
  | x :: a => by unfold sumZ; rw [ds_self hn, sumZ_self hn a]; rfl
theorem sumZ_zero {n : Int} (hn : 2 ≤ n) : ∀ a c : List Int, a.length = c.length → (∀ x ∈ a, 0 ≤ x ∧ x < n) → (∀ x ∈ c, 0 ≤ x ∧ x < n) → sumZ n a c = 0 → a = c
  | [], [], _, _, _, _ => rfl
  | x :: a, y :: c, hl, ha, hc, h => by
    unfold sumZ at h
    have h1 := sumZ_nonneg hn a c
    have h2 := (dsN_bd (x := x) (y := y) hn).1
    rw [ds_zero hn (ha x (by simp)) (hc y (by simp)) (by omega), sumZ_zero hn a c (by simpa using hl) (fun z hz => ha z (by simp [hz])) (fun z hz => hc z (by simp [hz])) (by omega)]
/-- a leading is an order of the other tones -/
theorem sumF_sumZ (n : Int) (b : List Int) : ∀ (a : List Int) (x : List Nat) (F : Nat → Int) (s : Nat), a.length = x.length → (∀ i, i < a.length → F (s + i) = a.getD i 0) → sumF (fun i y => dsN n (F i) (toneI b y)) x s = sumZ n a (x.map (toneI b))
  | [], [], _, _, _, _ => rfl
  | z :: a, y :: x, F, s, h, hF => by
    rw [sumF, List.map_cons, sumZ, sumF_sumZ n b a x F (s + 1) (by simpa using h) (fun i hi => by rw [show s + 1 + i = s + (i + 1) by omega, hF (i + 1) (by simpa using hi)]; rfl), show F s = z from hF 0 (by simp)]
theorem prV_sumZ {n : Int} {a b : List Int} {x : List Nat} (h : a.length = x.length) : prV n a b x = sumZ n a (x.map (toneI b)) := by
  unfold prV
  rw [prI_sumF]
  exact sumF_sumZ n b a x (toneI a) 0 h (fun i _ => by rw [Nat.zero_add]; rfl)
theorem range_tones (b : List Int) : (List.range b.length).map (toneI b) = b := by
  refine List.ext_getElem (by simp) (fun i h1 h2 => ?_)
  rw [List.getElem_map, List.getElem_range]
  unfold toneI
  rw [List.getD_eq_getElem?_getD, List.getElem?_eq_getElem h2]; rfl
theorem perm_range {k : Nat} {x : List Nat} (h : x ∈ rlead k k []) : x.Perm (List.range k) := by
  obtain ⟨h1, h2, h3⟩ := all_mem.1 h
  refine (List.perm_ext_iff_of_nodup h3 List.nodup_range).2 (fun y => ⟨fun hy => List.mem_range.2 (h2 y hy), fun hy => ?_⟩)
  rcases Classical.em (y ∈ x) with hm | hm
  · exact hm
  · have := len_le_of_sub (y :: x) (List.range k) (List.nodup_cons.2 ⟨hm, h3⟩) (fun c hc => by
      rcases List.mem_cons.1 hc with rfl | hc
      · exact hy
      · exact List.mem_range.2 (h2 c hc))
    rw [List.length_range, List.length_cons] at this
    omega
/-- the cost -/
theorem cost_spec {n : Int} {a b : List Int} (h : TwoN n a b) : (∃ c, c.Perm b ∧ sumZ n a c = (bestV n a b).2) ∧ ∀ c, c.Perm b → (bestV n a b).2 ≤ sumZ n a c := by
  obtain ⟨l, hl, e, hmin⟩ := bestV_min h
  have hlen : ∀ x ∈ rlead a.length a.length [], a.length = x.length := fun x hx => (all_mem.1 hx).1.symm
  constructor
  · refine ⟨l.map (toneI b), ?_, by rw [e, prV_sumZ (hlen l hl)]⟩
    have := (perm_range hl).map (toneI b)
    rwa [h.2.2, range_tones] at this
  · intro c hc
    obtain ⟨x, hx, e2⟩ := perm_lift (toneI b) hc (List.range b.length) (range_tones b).symm
    have hxm : x ∈ rlead a.length a.length [] := all_mem.2 ⟨by rw [hx.length_eq, List.length_range, h.2.2], fun y hy => by have := List.mem_range.1 (hx.mem_iff.1 hy); rw [h.2.2]; exact this, hx.nodup_iff.2 List.nodup_range⟩
    have := hmin x hxm
    rw [e, e2, ← prV_sumZ (hlen x hxm)]
    exact this
theorem cost_le {n : Int} {a b : List Int} (h : TwoN n a b) {c : List Int} (hc : c.Perm b) : (bestV n a b).2 ≤ sumZ n a c := (cost_spec h).2 c hc
theorem cost_perm {n : Int} {a a' b : List Int} (h : TwoN n a b) (h' : TwoN n a' b) (hp : a'.Perm a) : (bestV n a' b).2 = (bestV n a b).2 := by
  have go : ∀ {a a' : List Int}, TwoN n a b → TwoN n a' b → a'.Perm a → (bestV n a' b).2 ≤ (bestV n a b).2 := fun {a a'} h h' hp => by
    obtain ⟨c, hc, e⟩ := (cost_spec h).1
    obtain ⟨c', hc', e'⟩ := sumZ_move (n := n) hp (show a.length = c.length by rw [hc.length_eq]; exact h.2.2)
    rw [← e, ← e']
    exact cost_le h' (hc'.trans hc)
  exact Int.le_antisymm (go h h' hp) (go h' h hp.symm)
theorem cost_symm {n : Int} {a b : List Int} (h : TwoN n a b) (h' : TwoN n b a) : (bestV n a b).2 = (bestV n b a).2 := by
  have hn := h.1.1
  have go : ∀ {a b : List Int}, TwoN n a b → TwoN n b a → (bestV n b a).2 ≤ (bestV n a b).2 := fun {a b} h h' => by
    obtain ⟨c, hc, e⟩ := (cost_spec h).1
    obtain ⟨c', hc', e'⟩ := sumZ_move (n := n) (a := c) (a' := b) (c := a) hc.symm (by rw [hc.length_eq]; exact h.2.2.symm)
    rw [← e, sumZ_symm hn, ← e']
    exact cost_le h' hc'
  exact Int.le_antisymm (go h' h) (go h h')
theorem cost_tri {n : Int} {a b c : List Int} (hab : TwoN n a b) (hac : TwoN n a c) (hcb : TwoN n c b) : (bestV n a b).2 ≤ (bestV n a c).2 + (bestV n c b).2 := by
  obtain ⟨c1, h1, e1⟩ := (cost_spec hac).1
  obtain ⟨b1, h2, e2⟩ := (cost_spec hcb).1
  obtain ⟨b2, h3, e3⟩ := sumZ_move (n := n) (a := c) (a' := c1) (c := b1) h1 (by rw [h2.length_eq]; exact hcb.2.2)
  have := cost_le hab (h3.trans h2)
  have := sumZ_tri hab.1.1 a c1 b2 (by rw [h1.length_eq]; exact hac.2.2) (by rw [h1.length_eq, h3.length_eq, h2.length_eq]; exact hcb.2.2)
  omega
theorem cost_nonneg {n : Int} {a b : List Int} (h : TwoN n a b) : 0 ≤ (bestV n a b).2 := by
  obtain ⟨c, _, e⟩ := (cost_spec h).1
  rw [← e]; exact sumZ_nonneg h.1.1 _ _
theorem cost_zero {n : Int} {a b : List Int} (h : TwoN n a b) : (bestV n a b).2 = 0 ↔ a.Perm b := by
  constructor
  · intro h0
    obtain ⟨c, hc, e⟩ := (cost_spec h).1
    rw [h0] at e
    have := sumZ_zero h.1.1 a c (by rw [hc.length_eq]; exact h.2.2) h.1.2.2.2.2 (fun x hx => h.2.1.2.2.2.2 x (hc.mem_iff.1 hx)) e
    rw [this]; exact hc
  · intro hp
    have := cost_le h hp
    rw [sumZ_self h.1.1] at this
    have := cost_nonneg h
    omega

end Go.Proofs.Ytdnjbjcfbdclfaa.P
namespace Go.Proofs.Ytdnjbjcfbdclfaa.P
open Go.RowKit Go.Proofs.YtdnjbjcfbdclfaaW.PrintWords Go.Proofs.YtdnjbjcfbdclfaaW.PrintLast Go.Proofs.YtdnjbjcfbdclfaaW.PrintMore
attribute [local go_sem] max2_int min2_int max_two min_two max_three min_three max_four min_four   -- for this text's walks alone
set_option linter.unusedVariables false
set_option linter.unusedSimpArgs false

/-! tones in order, and what a leading of the least price is -/
theorem insR_comm (x y : Int) : ∀ l : List Int, insR x (insR y l) = insR y (insR x l)
  | [] => by
    by_cases h1 : y ≤ x <;> by_cases h2 : x ≤ y
    · have : x = y := by omega
      subst this; rfl
    · simp [insR, h1, h2]
    · simp [insR, h1, h2]
    · omega
  | z :: l => by
    by_cases h1 : z ≤ y <;> by_cases h2 : z ≤ x
    · simp [insR, h1, h2, insR_comm x y l]
    · have h3 : x ≤ y := by omega
      simp [insR, h1, h2, h3]
    · have h3 : y ≤ x := by omega
      simp [insR, h1, h2, h3]
    · by_cases h3 : y ≤ x <;> by_cases h4 : x ≤ y
      · have : x = y := by omega
        subst this; rfl
      · simp [insR, h1, h2, h3, h4]
      · simp [insR, h1, h2, h3, h4]
      · omega
theorem insR_perm (x : Int) : ∀ l : List Int, (insR x l).Perm (x :: l)
  | [] => List.Perm.refl _
  | y :: l => by
    unfold insR
    split
    · exact ((insR_perm x l).cons y).trans (List.Perm.swap x y l)
    · exact List.Perm.refl _
theorem fold_ins {a b : List Int} (h : a.Perm b) : ∀ o : List Int, a.foldl (fun o x => insR x o) o = b.foldl (fun o x => insR x o) o := by
  induction h with
  | nil => intro o; rfl
  | cons x _ ih => intro o; rw [List.foldl_cons, List.foldl_cons]; exact ih _
  | swap x y l => intro o; rw [List.foldl_cons, List.foldl_cons, List.foldl_cons, List.foldl_cons, insR_comm]
  | trans _ _ ih1 ih2 => intro o; exact (ih1 o).trans (ih2 o)
theorem fold_perm : ∀ (a o : List Int), (a.foldl (fun o x => insR x o) o).Perm (a ++ o)
  | [], o => List.Perm.refl _
  | x :: a, o => by
    rw [List.foldl_cons]
    exact (fold_perm a (insR x o)).trans (((insR_perm x o).append_left a).trans List.perm_middle)
theorem risR_perm (a : List Int) : (risR a).Perm a := by
  have := fold_perm a []
  rw [List.append_nil] at this
  exact this
theorem risR_iff {a b : List Int} : risR a = risR b ↔ a.Perm b :=
  ⟨fun h => (risR_perm a).symm.trans (h ▸ risR_perm b), fun h => fold_ins h []⟩
theorem rising_f (a : List Int) (h : a.length ≤ 1000) : sackbutref06_Rising.f a = some (risR a) := by unfold sackbutref06_Rising.f; rw [if_pos h]
theorem two_symm {n : Int} {a b : List Int} (h : TwoN n a b) : TwoN n b a := ⟨h.2.1, h.1, h.2.2.symm⟩
theorem cost_bd {n : Int} {a b : List Int} (h : TwoN n a b) : (bestV n a b).2 ≤ 1000 := by
  obtain ⟨l, _, e, hl, _⟩ := bestV_some h
  have h1 := (prI_bd h.1.1 a b (nums l) 0).2
  rw [nums_length, hl] at h1
  have h2 : n * (a.length : Int) ≤ 16 * 6 := Int.mul_le_mul h.1.2.1 (by have := h.1.2.2.2.1; omega) (by omega) (by decide)
  rw [e]; unfold prV
  omega
theorem Price3_ev (n : Int) (a b l : List Int) (hl : l.length < 9223372036854775807) : Ev (fun k => voices_Price.f k n a b l) (if TwoN n a b ∧ LeadOf a.length l then (prI n a b l 0, 0) else (0, 2)) := by
  unfold voices_Price.f
  refine Ev.bind (valid2_ev n a b) ?_
  by_cases h : TwoN n a b
  · simp only [h, decide_true, if_true, true_and]
    refine Ev.bind (isLeading_ev l a.length (by have := h.1.2.2.2.1; omega) hl) ?_
    by_cases h2 : LeadOf a.length l
    · simp only [h2, decide_true, if_true]
      exact Ev.bind (price_ev h.1 h.2.1 l (by rw [h2.1]; exact Nat.le_refl _) (fun k hk => by have := h2.2.1 k hk; have := h.2.2; omega)) (Ev.some _)
    · simp only [h2, decide_false, Bool.false_eq_true, if_false]
      exact Ev.some _
  · simp only [h, decide_false, Bool.false_eq_true, if_false, false_and]
    exact Ev.some _
theorem lead_nums3 {k : Nat} {x : List Nat} (h : x ∈ rlead k k []) : LeadOf k (nums x) := by
  obtain ⟨h1, h2, h3⟩ := all_mem.1 h
  refine ⟨by rw [nums_length]; exact h1, fun y hy => ?_, ?_⟩
  · unfold nums at hy
    rw [List.mem_map] at hy
    obtain ⟨z, hz, rfl⟩ := hy
    have := h2 z hz
    show (0 : Int) ≤ (z : Int) ∧ (z : Int) < _
    omega
  · unfold nums
    exact List.Pairwise.map _ (fun a b hab => fun e => hab (Int.ofNat.inj e)) h3
theorem best_lead {n : Int} {a b : List Int} (h : TwoN n a b) : ∃ l, (bestV n a b).1 = some l ∧ LeadOf a.length (nums l) ∧ prI n a b (nums l) 0 = (bestV n a b).2 := by
  obtain ⟨l, hl, e⟩ := rfold_some (prV n a b) (rlead_ne (k := a.length) a.length [] (by simp))
  obtain ⟨h1, h2⟩ := best_ref n a b
  rw [h1] at e
  exact ⟨l, e, lead_nums3 hl, (h2 l e).symm⟩

end Go.Proofs.Ytdnjbjcfbdclfaa.P
namespace Go.Proofs.Ytdnjbjcfbdclfaa.P
open Go.RowKit Go.Proofs.YtdnjbjcfbdclfaaW.PrintWords Go.Proofs.YtdnjbjcfbdclfaaW.PrintLast Go.Proofs.YtdnjbjcfbdclfaaW.PrintMore
attribute [local go_sem] max2_int min2_int max_two min_two max_three min_three max_four min_four   -- for this text's walks alone
set_option linter.unusedVariables false
set_option linter.unusedSimpArgs false

/-! the cost is that of a leading that keeps the order around the circle -/
theorem mul_self_nonneg9 (a : Int) : 0 ≤ a * a := by
  rcases Int.le_total 0 a with h | h
  · exact Int.mul_nonneg h h
  · exact Int.mul_nonneg_of_nonpos_of_nonpos h h
theorem nat_least {α : Type} (P : α → Prop) (f : α → Nat) (h : ∃ z, P z) : ∃ z, P z ∧ ∀ w, P w → f z ≤ f w := by
  have key : ∀ (m : Nat) (z : α), P z → f z ≤ m → ∃ z', P z' ∧ ∀ w, P w → f z' ≤ f w := by
    intro m
    induction m with
    | zero => intro z hz h0; exact ⟨z, hz, fun w _ => by omega⟩
    | succ m ih =>
      intro z hz hm
      by_cases hw : ∃ w, P w ∧ f w < f z
      · obtain ⟨w, hw, hlt⟩ := hw
        exact ih w hw (by omega)
      · exact ⟨z, hz, fun w h2 => Nat.le_of_not_lt (fun hlt => hw ⟨w, h2, hlt⟩)⟩
  obtain ⟨z, hz⟩ := h
  exact key (f z) z hz (Nat.le_refl _)
def sumG (f : Int → Int → Int) : List Int → List Int → Int
  | x :: a, y :: c => f x y + sumG f a c
  | _, _ => 0
def lnA (x z : Int) : Int := max (z - x) (x - z)
def lnS (x z : Int) : Int := (z - x) * (z - x)
theorem sumG_set (f : Int → Int → Int) : ∀ (x z : List Int) (i : Nat) (v : Int) (hx : i < x.length) (hz : i < z.length), sumG f x (z.set i v) = sumG f x z - f x[i] z[i] + f x[i] v
  | [], _, _, _, h, _ => by simp at h
  | _ :: _, [], _, _, _, h => by simp at h
  | x :: a, z :: c, 0, v, _, _ => by simp only [List.set_cons_zero, sumG, List.getElem_cons_zero]; omega
  | x :: a, z :: c, i + 1, v, hx, hz => by
    simp only [List.set_cons_succ, sumG, List.getElem_cons_succ]
    rw [sumG_set f a c i v (by simpa using hx) (by simpa using hz)]
    omega
theorem sumG_nonneg {f : Int → Int → Int} (hf : ∀ x y, 0 ≤ f x y) : ∀ x z : List Int, 0 ≤ sumG f x z
  | [], _ => by cases ‹List Int› <;> exact Int.le_refl _
  | _ :: _, [] => Int.le_refl _
  | x :: a, z :: c => by
    have := sumG_nonneg hf a c
    have := hf x z
    unfold sumG; omega
theorem lift_num {n xi xj zi zj : Int} (hi : 0 ≤ xi ∧ xi < n) (hj : 0 ≤ xj ∧ xj < n) (h : n < zj - zi) :
    lnA xi (zj - n) + lnA xj (zi + n) ≤ lnA xi zi + lnA xj zj ∧ lnS xi (zj - n) + lnS xj (zi + n) < lnS xi zi + lnS xj zj := by
  obtain ⟨u, hu⟩ : ∃ u, u = zi - xi := ⟨_, rfl⟩
  obtain ⟨v, hv⟩ : ∃ v, v = zj - xj := ⟨_, rfl⟩
  obtain ⟨s, hs⟩ : ∃ s, s = n - (xj - xi) := ⟨_, rfl⟩
  unfold lnA lnS
  refine ⟨by omega, ?_⟩
  rw [show zj - n - xi = v - s by omega, show zi + n - xj = u + s by omega, ← hu, ← hv]
  have hpos : 0 < s * (v - u - s) := Int.mul_pos (by omega) (by omega)
  have x1 : (u + s) * (u + s) = u * u + 2 * (s * u) + s * s := by rw [Int.add_mul, Int.mul_add, Int.mul_add, Int.mul_comm u s]; omega
  have x2 : (v - s) * (v - s) = v * v - 2 * (s * v) + s * s := by rw [Int.sub_mul, Int.mul_sub, Int.mul_sub, Int.mul_comm v s]; omega
  have x3 : s * (v - u - s) = s * v - s * u - s * s := by rw [Int.mul_sub, Int.mul_sub]
  omega
/-- a least lift is not wider than the circle -/
theorem lift_least {n : Int} (hn : 2 ≤ n) {x y : List Int} (hx : ∀ v ∈ x, 0 ≤ v ∧ v < n) (hl : x.length = y.length) (z0 : List Int) (h0 : (z0.map (· % n)).Perm y) :
    ∃ z, (z.map (· % n)).Perm y ∧ sumG lnA x z ≤ sumG lnA x z0 ∧ ∀ u ∈ z, ∀ v ∈ z, v - u ≤ n := by
  obtain ⟨z1, p1, m1⟩ := nat_least (fun z => (z.map (· % n)).Perm y) (fun z => (sumG lnA x z).toNat) ⟨z0, h0⟩
  obtain ⟨z, ⟨p2, q2⟩, m2⟩ := nat_least (fun z => (z.map (· % n)).Perm y ∧ sumG lnA x z ≤ sumG lnA x z1) (fun z => (sumG lnS x z).toNat) ⟨z1, p1, Int.le_refl _⟩
  have hA : ∀ z, 0 ≤ sumG lnA x z := sumG_nonneg (fun x y => by unfold lnA; omega) x
  have hS : ∀ z, 0 ≤ sumG lnS x z := sumG_nonneg (fun x y => by unfold lnS; exact mul_self_nonneg9 _) x
  refine ⟨z, p2, by have := m1 z0 h0; have := hA z0; have := hA z1; omega, fun u hu v hv => Int.not_lt.1 (fun hlt => ?_)⟩
  obtain ⟨i, hi, rfl⟩ := List.mem_iff_getElem.1 hu
  obtain ⟨j, hj, rfl⟩ := List.mem_iff_getElem.1 hv
  have hzl : z.length = x.length := by have := p2.length_eq; rw [List.length_map] at this; omega
  have hne : i ≠ j := by rintro rfl; omega
  obtain ⟨s1, s2⟩ := lift_num (hx _ (List.getElem_mem (show i < x.length by omega))) (hx _ (List.getElem_mem (show j < x.length by omega))) hlt
  have eA : ∀ f : Int → Int → Int, sumG f x ((z.set i (z[j] - n)).set j (z[i] + n)) = sumG f x z - f x[i] z[i] - f x[j] z[j] + f x[i] (z[j] - n) + f x[j] (z[i] + n) := fun f => by
    rw [sumG_set f x _ j _ (by omega) (by simpa using hj), sumG_set f x z i _ (by omega) hi, List.getElem_set_ne hne]
    omega
  have hp : (((z.set i (z[j] - n)).set j (z[i] + n)).map (· % n)).Perm y := by
    rw [List.map_set, List.map_set]
    simp only [Int.sub_emod_right, Int.add_emod_right]
    have := @List.set_set_perm _ (z.map (· % n)) i j (by simpa using hi) (by simpa using hj)
    simp only [List.getElem_map] at this
    exact this.trans p2
  have h3 := m2 _ ⟨hp, by rw [eA]; omega⟩
  rw [eA] at h3
  have := hS z
  have h5 := hS ((z.set i (z[j] - n)).set j (z[i] + n))
  rw [eA] at h5
  omega
/-! in order -/
def srtR : List Int → List Int
  | [] => []
  | x :: l => insR x (srtR l)
theorem srtR_perm : ∀ l, (srtR l).Perm l
  | [] => List.Perm.refl _
  | x :: l => (insR_perm x _).trans ((srtR_perm l).cons x)
theorem insR_sorted (x : Int) : ∀ l : List Int, l.Pairwise (· ≤ ·) → (insR x l).Pairwise (· ≤ ·)
  | [], _ => List.pairwise_singleton _ _
  | y :: l, h => by
    rw [List.pairwise_cons] at h
    unfold insR
    split
    · rename_i hy
      refine List.pairwise_cons.2 ⟨fun z hz => ?_, insR_sorted x l h.2⟩
      rcases List.mem_cons.1 ((insR_perm x l).mem_iff.1 hz) with rfl | hz
      · exact hy
      · exact h.1 z hz
    · rename_i hy
      refine List.pairwise_cons.2 ⟨fun z hz => ?_, List.pairwise_cons.2 h⟩
      rcases List.mem_cons.1 hz with rfl | hz
      · omega
      · have := h.1 z hz; omega
theorem srtR_sorted : ∀ l, (srtR l).Pairwise (· ≤ ·)
  | [] => List.Pairwise.nil
  | x :: l => insR_sorted x _ (srtR_sorted l)
theorem fold_sorted : ∀ (l o : List Int), (o ++ l).Pairwise (· ≤ ·) → l.foldl (fun o x => insR x o) o = o ++ l
  | [], o, _ => by simp
  | x :: l, o, h => by
    have e : insR x o = o ++ [x] := by
      have h2 := (List.pairwise_append.1 h).2.2
      have : ∀ o : List Int, (∀ y ∈ o, y ≤ x) → insR x o = o ++ [x] := by
        intro o
        induction o with
        | nil => intro _; rfl
        | cons y o ih =>
          intro h
          unfold insR
          rw [if_pos (h y (by simp)), ih (fun z hz => h z (by simp [hz]))]; rfl
      exact this o (fun y hy => h2 y hy x (by simp))
    rw [List.foldl_cons, e, fold_sorted l (o ++ [x]) (by simpa using h)]
    simp
theorem risR_sorted {l : List Int} (h : l.Pairwise (· ≤ ·)) : risR l = l := by
  have := fold_sorted l [] (by simpa using h)
  rw [List.nil_append] at this
  exact this
theorem risR_in_order (l : List Int) : (risR l).Pairwise (· ≤ ·) := by
  have : risR l = srtR l := by
    have h1 : risR l = risR (srtR l) := risR_iff.2 (srtR_perm l).symm
    rw [h1, risR_sorted (srtR_sorted l)]
  rw [this]; exact srtR_sorted l
theorem line_ins : ∀ (x s : List Int) (x0 v : Int), (x0 :: x).Pairwise (· ≤ ·) → x.length = s.length → sumG lnA (x0 :: x) (insR v s) ≤ lnA x0 v + sumG lnA x s
  | [], [], _, _, _, _ => Int.le_refl _
  | x1 :: x, s0 :: s, x0, v, hx, hl => by
    unfold insR
    split
    · rename_i hv
      have ih := line_ins x s x1 v (List.pairwise_cons.1 hx).2 (by simpa using hl)
      have h01 := (List.pairwise_cons.1 hx).1 x1 (by simp)
      have h2 : lnA x0 s0 + lnA x1 v ≤ lnA x0 v + lnA x1 s0 := by unfold lnA; omega
      have e1 : sumG lnA (x0 :: x1 :: x) (s0 :: insR v s) = lnA x0 s0 + sumG lnA (x1 :: x) (insR v s) := rfl
      have e2 : sumG lnA (x1 :: x) (s0 :: s) = lnA x1 s0 + sumG lnA x s := rfl
      omega
    · exact Int.le_refl _
theorem line_sort : ∀ (x z : List Int), x.Pairwise (· ≤ ·) → x.length = z.length → sumG lnA x (srtR z) ≤ sumG lnA x z
  | [], [], _, _ => Int.le_refl _
  | x0 :: x, v :: z, hx, hl => by
    have ih := line_sort x z (List.pairwise_cons.1 hx).2 (by simpa using hl)
    have h1 := line_ins x (srtR z) x0 v hx (by rw [(srtR_perm z).length_eq]; simpa using hl)
    have e : sumG lnA (x0 :: x) (v :: z) = lnA x0 v + sumG lnA x z := rfl
    have e2 : srtR (v :: z) = insR v (srtR z) := rfl
    rw [e2]; omega
theorem cut_at (T : Int) : ∀ z : List Int, z.Pairwise (· ≤ ·) → ∃ A B, z = A ++ B ∧ (∀ a ∈ A, a < T) ∧ ∀ b ∈ B, T ≤ b
  | [], _ => ⟨[], [], rfl, fun a h => (by cases h), fun a h => (by cases h)⟩
  | v :: z, h => by
    by_cases hv : v < T
    · obtain ⟨A, B, e, h1, h2⟩ := cut_at T z (List.pairwise_cons.1 h).2
      refine ⟨v :: A, B, by rw [e]; rfl, fun a ha => ?_, h2⟩
      rcases List.mem_cons.1 ha with rfl | ha
      · exact hv
      · exact h1 a ha
    · refine ⟨[], v :: z, rfl, fun a h => (by cases h), fun b hb => ?_⟩
      rcases List.mem_cons.1 hb with rfl | hb
      · omega
      · have := (List.pairwise_cons.1 h).1 b hb; omega
/-- tones in order that are not wider than the circle are the other tones, moved around -/
theorem lift_rot {n : Int} (hn : 2 ≤ n) {y z : List Int} (hy : y.Pairwise (· ≤ ·)) (hz : z.Pairwise (· ≤ ·)) (h1 : 1 ≤ z.length) (hp : (z.map (· % n)).Perm y) (hw : ∀ u ∈ z, ∀ v ∈ z, v - u ≤ n) : ∃ r, r < y.length ∧ z.map (· % n) = y.drop r ++ y.take r := by
  cases z with
  | nil => simp at h1
  | cons z0 z =>
  obtain ⟨q, hq⟩ : ∃ q, q = z0 / n := ⟨_, rfl⟩
  have d1 := Int.mul_ediv_add_emod z0 n
  have d2 := Int.emod_nonneg z0 (show n ≠ 0 by omega)
  have d3 := Int.emod_lt_of_pos z0 (show 0 < n by omega)
  rw [← hq] at d1
  have dT : n * (q + 1) = n * q + n := by rw [Int.mul_add, Int.mul_one]
  obtain ⟨A, B, e, hA, hB⟩ := cut_at (n * (q + 1)) (z0 :: z) hz
  have hlo : ∀ a ∈ z0 :: z, z0 ≤ a := fun a ha => by
    rcases List.mem_cons.1 ha with rfl | ha
    · exact Int.le_refl _
    · exact (List.pairwise_cons.1 hz).1 a ha
  have hhi : ∀ a ∈ z0 :: z, a ≤ z0 + n := fun a ha => by have := hw z0 (by simp) a ha; omega
  have mA : ∀ a ∈ A, a % n = a - n * q := fun a ha => by
    have := hA a ha
    have := hlo a (by rw [e]; simp [ha])
    rw [show a = (a - n * q) + n * q by omega, Int.add_mul_emod_self_left, Int.emod_eq_of_lt (by omega) (by omega)]; omega
  have mB : ∀ a ∈ B, a % n = a - n * (q + 1) := fun a ha => by
    have := hB a ha
    have := hhi a (by rw [e]; simp [ha])
    rw [show a = (a - n * (q + 1)) + n * (q + 1) by omega, Int.add_mul_emod_self_left, Int.emod_eq_of_lt (by omega) (by omega)]; omega
  rw [e] at hz hp
  obtain ⟨sA, sB, sAB⟩ := List.pairwise_append.1 hz
  have hne : A ≠ [] := by
    rintro rfl
    have := hB z0 (by rw [List.nil_append] at e; rw [← e]; simp)
    omega
  have hS : (B.map (· % n) ++ A.map (· % n)).Pairwise (· ≤ ·) := by
    refine List.pairwise_append.2 ⟨?_, ?_, ?_⟩
    · refine List.pairwise_map.2 (sB.imp_of_mem (fun {a b} ha hb hab => ?_))
      rw [mB a ha, mB b hb]; omega
    · refine List.pairwise_map.2 (sA.imp_of_mem (fun {a b} ha hb hab => ?_))
      rw [mA a ha, mA b hb]; omega
    · intro u hu v hv
      obtain ⟨a, ha, rfl⟩ := List.mem_map.1 hu
      obtain ⟨b, hb, rfl⟩ := List.mem_map.1 hv
      have h3 := mB a ha
      have h4 := mA b hb
      have h5 := hhi a (by rw [e]; simp [ha])
      have h6 := hlo b (by rw [e]; simp [hb])
      simp only [h3, h4]
      omega
  have hy2 : B.map (· % n) ++ A.map (· % n) = y := by
    rw [← risR_sorted hS, ← risR_sorted hy]
    refine risR_iff.2 (List.perm_append_comm.trans ?_)
    rwa [List.map_append] at hp
  refine ⟨B.length, ?_, ?_⟩
  · rw [← hy2, List.length_append, List.length_map, List.length_map]
    have := List.length_pos_iff.2 hne
    omega
  · rw [e, List.map_append, ← hy2]
    have hlb : (B.map (· % n)).length = B.length := List.length_map _
    rw [← hlb, List.drop_left, List.take_left]

theorem lift_start {n : Int} : ∀ (x c : List Int), x.length = c.length → (∀ v ∈ c, 0 ≤ v ∧ v < n) → ∃ z : List Int, z.map (· % n) = c ∧ sumG lnA x z = sumZ n x c
  | [], [], _, _ => ⟨[], rfl, rfl⟩
  | u :: x, v :: c, hl, hc => by
    obtain ⟨z, e1, e2⟩ := lift_start x c (by simpa using hl) (fun w hw => hc w (by simp [hw]))
    obtain ⟨k, hk⟩ := mv_cong n u v
    have hv := hc v (by simp)
    refine ⟨(u + mvN n u v) :: z, ?_, ?_⟩
    · rw [List.map_cons, e1, show u + mvN n u v = v + n * k by omega, Int.add_mul_emod_self_left, Int.emod_eq_of_lt hv.1 hv.2]
    · unfold sumG sumZ
      have e3 : dsN n u v = max (mvN n u v) (-(mvN n u v)) := rfl
      rw [e2, e3]
      unfold lnA
      omega
theorem lift_end {n : Int} (hn : 2 ≤ n) : ∀ (x z : List Int), x.length = z.length → sumZ n x (z.map (· % n)) ≤ sumG lnA x z
  | [], [], _ => Int.le_refl _
  | u :: x, v :: z, hl => by
    have ih := lift_end hn x z (by simpa using hl)
    have d := Int.mul_ediv_add_emod v n
    have h := ds_le (n := n) (x := u) (y := v % n) (m := v - u) (c := v / n) hn (by omega)
    rw [List.map_cons]
    show dsN n u (v % n) + sumZ n x (z.map (· % n)) ≤ lnA u v + sumG lnA x z
    have e : lnA u v = max (v - u) (u - v) := rfl
    omega
theorem rot_cost {n : Int} {x y : List Int} (h : TwoN n x y) (hx : x.Pairwise (· ≤ ·)) (hy : y.Pairwise (· ≤ ·)) : ∃ r, r < y.length ∧ sumZ n x (y.drop r ++ y.take r) ≤ (bestV n x y).2 := by
  have hn := h.1.1
  obtain ⟨c, hc, e⟩ := (cost_spec h).1
  obtain ⟨z0, p0, e0⟩ := lift_start x c (by rw [hc.length_eq]; exact h.2.2) (fun v hv => h.2.1.2.2.2.2 v (hc.mem_iff.1 hv))
  obtain ⟨z, p1, l1, w1⟩ := lift_least hn (x := x) (y := y) h.1.2.2.2.2 h.2.2 z0 (by rw [p0]; exact hc)
  have hzl : x.length = z.length := by have := p1.length_eq; rw [List.length_map] at this; rw [this]; exact h.2.2
  have ps := srtR_perm z
  obtain ⟨r, hr, er⟩ := lift_rot hn hy (srtR_sorted z) (by rw [ps.length_eq, ← hzl]; exact h.1.2.2.1) ((ps.map _).trans p1) (fun u hu v hv => w1 u (ps.mem_iff.1 hu) v (ps.mem_iff.1 hv))
  refine ⟨r, hr, ?_⟩
  have h1 := lift_end hn x (srtR z) (by rw [ps.length_eq]; exact hzl)
  have h2 := line_sort x z hx hzl
  rw [er] at h1
  omega
theorem rot_ge {n : Int} {x y : List Int} (h : TwoN n x y) (r : Nat) : (bestV n x y).2 ≤ sumZ n x (y.drop r ++ y.take r) :=
  cost_le h (by have h1 := List.perm_append_comm (l₁ := y.drop r) (l₂ := y.take r); rwa [List.take_append_drop] at h1)
theorem rotN_eq {k r : Nat} (hr : r < k) : (List.range k).map (fun i => (i + r) % k) = (List.range k).drop r ++ (List.range k).take r := by
  refine List.ext_getElem (by simp; omega) (fun i h1 h2 => ?_)
  have hi : i < k := by simpa using h1
  rw [List.getElem_map, List.getElem_range, List.getElem_append]
  split
  · rename_i hlt
    rw [List.length_drop, List.length_range] at hlt
    rw [List.getElem_drop, List.getElem_range, Nat.mod_eq_of_lt (by omega)]; omega
  · rename_i hge
    simp only [List.length_drop, List.length_range] at hge ⊢
    rw [List.getElem_take, List.getElem_range, Nat.mod_eq_sub_mod (by omega), Nat.mod_eq_of_lt (by omega)]; omega
theorem rotN_mem {k r : Nat} (hr : r < k) : (List.range k).map (fun i => (i + r) % k) ∈ rlead k k [] := by
  have hp : ((List.range k).map (fun i => (i + r) % k)).Perm (List.range k) := by
    rw [rotN_eq hr]
    have h1 := List.perm_append_comm (l₁ := (List.range k).drop r) (l₂ := (List.range k).take r)
    rwa [List.take_append_drop] at h1
  exact all_mem.2 ⟨by simp, fun y hy => List.mem_range.1 (hp.mem_iff.1 hy), hp.nodup_iff.2 List.nodup_range⟩
theorem rotN_price {n : Int} {x y : List Int} (h : TwoN n x y) {r : Nat} (hr : r < x.length) : prI n x y (nums ((List.range x.length).map (fun i => (i + r) % x.length))) 0 = sumZ n x (y.drop r ++ y.take r) := by
  have e := prV_sumZ (n := n) (a := x) (b := y) (x := (List.range x.length).map (fun i => (i + r) % x.length)) (by simp)
  unfold prV at e
  rw [e, rotN_eq hr, List.map_append, List.map_drop, List.map_take, h.2.2, range_tones]

end Go.Proofs.Ytdnjbjcfbdclfaa.P
namespace Go.Proofs.Ytdnjbjcfbdclfaa.P
open Go.RowKit Go.Proofs.YtdnjbjcfbdclfaaW.PrintWords Go.Proofs.YtdnjbjcfbdclfaaW.PrintLast Go.Proofs.YtdnjbjcfbdclfaaW.PrintMore
attribute [local go_sem] max2_int min2_int max_two min_two max_three min_three max_four min_four   -- for this text's walks alone
set_option linter.unusedVariables false
set_option linter.unusedSimpArgs false

def rotS (n : Int) (x y : List Int) (r : Nat) : Int := sumZ n x (y.drop r ++ y.take r)
def RotInv (n : Int) (x y : List Int) (r : Nat) (m : Int) : Prop := (r = 0 ∧ m = -1) ∨ (0 < r ∧ (∃ i, i < r ∧ m = rotS n x y i) ∧ ∀ i, i < r → m ≤ rotS n x y i)
theorem clone_any (l : List Int) (h : l.length ≤ 1000) : slices_Clone_int_int.f l = some l := by unfold slices_Clone_int_int.f; rw [if_pos (by omega)]
theorem rot_inner {n C m : Int} {x y : List Int} (h : TwoN n x y) {r : Nat} (hr : r < x.length)
    (hend : Ev (fun q => sackbutlaw06_VoicesRotates.l1 q n C x y m (r : Int) (nums ((List.range x.length).map (fun i => (i + r) % x.length))) (x.length : Int) (r : Int) (x.length : Int) (x.length : Int)) true) :
    ∀ (d i : Nat), i + d = x.length → Ev (fun q => sackbutlaw06_VoicesRotates.l1 q n C x y m (r : Int) (nums ((List.range i).map (fun i => (i + r) % x.length))) (x.length : Int) (r : Int) (x.length : Int) (i : Int)) true := by
  have hk := h.1.2.2.2.1
  intro d
  induction d with
  | zero =>
    intro i hi
    have : i = x.length := by omega
    rw [this]; exact hend
  | succ d ih =>
    intro i hi
    have hi2 := ih (i + 1) (by omega)
    rw [List.range_succ, List.map_append] at hi2
    refine Ev.succ ?_
    have w1 : wrap64 ((i : Int) + (r : Int)) = (i : Int) + r := wrap_id (by omega) (by omega)
    have w2 : wrap64 ((i : Int) + 1) = ((i + 1 : Nat) : Int) := by rw [wrap_id (by omega) (by omega)]; omega
    have w3 : Int.tmod ((i : Int) + (r : Int)) (x.length : Int) = (((i + r) % x.length : Nat) : Int) := by
      rw [Int.tmod_eq_emod_of_nonneg (by omega)]; push_cast; rfl
    have hl : (nums ((List.range i).map (fun i => (i + r) % x.length))).length < 17592186044416 := by rw [nums_length, List.length_map, List.length_range]; omega
    simp only [sackbutlaw06_VoicesRotates.l1, if_pos (show (i : Int) < (x.length : Int) by omega), if_neg (show ¬ (x.length : Int) = 0 by omega), if_pos hl, w1, w2, w3]
    unfold nums at hi2 ⊢
    rw [List.map_append] at hi2
    exact hi2
theorem rot_outer {n : Int} {x y : List Int} (h : TwoN n x y) (hx : x.Pairwise (· ≤ ·)) (hy : y.Pairwise (· ≤ ·)) : ∀ (d r : Nat) (m : Int), r + d = x.length → RotInv n x y r m → Ev (fun q => sackbutlaw06_VoicesRotates.l0 q n (bestV n x y).2 x y m (x.length : Int) (r : Int)) true := by
  have hk := h.1.2.2.2.1
  have hk1 := h.1.2.2.1
  intro d
  induction d with
  | zero =>
    intro r m hr hm
    refine Ev.succ ?_
    have hC : m = (bestV n x y).2 := by
      rcases hm with ⟨h0, _⟩ | ⟨_, ⟨i, hi, e⟩, hle⟩
      · omega
      · obtain ⟨r0, h1, h2⟩ := rot_cost h hx hy
        have h3 := hle r0 (by have := h.2.2; omega)
        have h4 := rot_ge h i
        have e2 : rotS n x y r0 = sumZ n x (y.drop r0 ++ y.take r0) := rfl
        have e3 : rotS n x y i = sumZ n x (y.drop i ++ y.take i) := rfl
        omega
    simp only [sackbutlaw06_VoicesRotates.l0, if_neg (show ¬ (r : Int) < (x.length : Int) by omega), if_pos hC]
    exact Ev.bind_some awake_f (Ev.some _)
  | succ d ih =>
    intro r m hr hm
    have hrk : r < x.length := by omega
    refine Ev.succ ?_
    simp only [sackbutlaw06_VoicesRotates.l0, if_pos (show (r : Int) < (x.length : Int) by omega)]
    have w2 : wrap64 ((r : Int) + 1) = ((r + 1 : Nat) : Int) := by rw [wrap_id (by omega) (by omega)]; omega
    have hlead := lead_nums3 (rotN_mem hrk)
    have hS0 : 0 ≤ rotS n x y r := sumZ_nonneg h.1.1 _ _
    refine rot_inner h hrk ?_ x.length 0 (by omega)
    refine Ev.succ ?_
    simp only [sackbutlaw06_VoicesRotates.l1, if_neg (show ¬ (x.length : Int) < (x.length : Int) by omega), w2]
    refine Ev.bind_some (clone_any x (by omega)) ?_
    refine Ev.bind_some (clone_any y (by have := h.2.2; omega)) ?_
    refine Ev.bind (Price3_ev n x y _ (by have := hlead.1; omega)) ?_
    simp only [h, hlead, and_self, if_true, rotN_price h hrk]
    have e2 : sumZ n x (y.drop r ++ y.take r) = rotS n x y r := rfl
    rw [e2]
    have put : RotInv n x y r m → (m < 0 ∨ rotS n x y r < m) → RotInv n x y (r + 1) (rotS n x y r) := fun hm hc => by
      refine .inr ⟨by omega, ⟨r, by omega, rfl⟩, fun i hi => ?_⟩
      rcases Nat.lt_or_ge i r with hlt | hge
      · rcases hm with ⟨h0, _⟩ | ⟨_, ⟨j, _, e⟩, hle⟩
        · omega
        · have := hle i hlt
          have hj0 : 0 ≤ rotS n x y j := sumZ_nonneg h.1.1 _ _
          omega
      · have : i = r := by omega
        subst this; exact Int.le_refl _
    by_cases c1 : m < 0
    · simp only [if_pos c1]
      exact ih (r + 1) _ (by omega) (put hm (.inl c1))
    · simp only [if_neg c1]
      by_cases c2 : rotS n x y r < m
      · simp only [if_pos c2]
        exact ih (r + 1) _ (by omega) (put hm (.inr c2))
      · simp only [if_neg c2]
        refine ih (r + 1) m (by omega) (.inr ⟨by omega, ?_, ?_⟩)
        · rcases hm with ⟨_, h0⟩ | ⟨_, ⟨j, hj, e⟩, _⟩
          · omega
          · exact ⟨j, by omega, e⟩
        · intro i hi
          rcases Nat.lt_or_ge i r with hlt | hge
          · rcases hm with ⟨_, h0⟩ | ⟨_, _, hle⟩
            · omega
            · exact hle i hlt
          · have : i = r := by omega
            subst this; omega
theorem VoicesRotates : sackbutlaw06_VoicesRotates.Pure := by
  intro n a b _ ha1 _ _ hb1 _ _
  have hM : maxLen = 9223372036854775807 := rfl
  refine Ev.rounds (g := fun q => sackbutlaw06_VoicesRotates.f q n a b) ?_
  unfold sackbutlaw06_VoicesRotates.f
  by_cases h : TwoN n a b
  · have h9 : TwoN n (a.take 9) (b.take 9) := (two_take n a b).2 h
    have hal := h.1.2.2.2.1
    have hbl := h.2.1.2.2.2.1
    have pa := risR_perm a
    have pb := risR_perm b
    have hr : TwoN n (risR a) (risR b) := ⟨⟨h.1.1, h.1.2.1, by rw [pa.length_eq]; exact h.1.2.2.1, by rw [pa.length_eq]; exact h.1.2.2.2.1, fun x hx => h.1.2.2.2.2 x (pa.mem_iff.1 hx)⟩, ⟨h.1.1, h.1.2.1, by rw [pb.length_eq]; exact h.2.1.2.2.1, by rw [pb.length_eq]; exact h.2.1.2.2.2.1, fun x hx => h.2.1.2.2.2.2 x (pb.mem_iff.1 hx)⟩, by rw [pa.length_eq, pb.length_eq]; exact h.2.2⟩
    have hab : TwoN n (risR a) b := ⟨hr.1, h.2.1, by rw [pa.length_eq]; exact h.2.2⟩
    have hC : (bestV n a b).2 = (bestV n (risR a) (risR b)).2 := by
      rw [← cost_perm h hab pa, cost_symm hab (two_symm hab), ← cost_perm (two_symm hab) (two_symm hr) pb, cost_symm (two_symm hr) hr]
    have e1 : voices_Cost.f n (a.take 9) (b.take 9) = some ((bestV n (risR a) (risR b)).2, 0) := by unfold voices_Cost.f; rw [if_pos h9, voi_take9 h.1, voi_take9 h.2.1, hC]
    refine Ev.bind_some (list9_f a) ?_
    refine Ev.bind_some (list9_f b) ?_
    refine Ev.bind_some e1 ?_
    simp only [if_true]
    refine Ev.bind (refTwo_ev n a b (by omega) (by omega)) ?_
    simp only [h, decide_true, Bool.not_true]
    refine Ev.succ ?_
    simp only [sackbutlaw06_VoicesRotates.j0, Bool.false_eq_true, if_false]
    refine Ev.bind_some (rising_f a (by omega)) ?_
    refine Ev.bind_some (rising_f b (by omega)) ?_
    exact rot_outer hr (risR_in_order a) (risR_in_order b) (risR a).length 0 (-1) (by omega) (.inl ⟨rfl, rfl⟩)
  · have h9 : ¬ TwoN n (a.take 9) (b.take 9) := fun h3 => h ((two_take n a b).1 h3)
    have e1 : voices_Cost.f n (a.take 9) (b.take 9) = some (0, 2) := by unfold voices_Cost.f; rw [if_neg h9]
    refine Ev.bind_some (list9_f a) ?_
    refine Ev.bind_some (list9_f b) ?_
    refine Ev.bind_some e1 ?_
    simp only [if_neg (show ¬ (2 : Int) = 0 by decide)]
    refine Ev.succ ?_
    simp only [sackbutlaw06_VoicesRotates.j0, if_true]
    exact Ev.bind_some awake_f (Ev.some _)

end Go.Proofs.Ytdnjbjcfbdclfaa.P
namespace Go.Proofs.Ytdnjbjcfbdclfaa.Pure
theorem VoicesRotates : Go.Proofs.Ytdnjbjcfbdclfaa.P.sackbutlaw06_VoicesRotates.Pure := Go.Proofs.Ytdnjbjcfbdclfaa.P.VoicesRotates
end Go.Proofs.Ytdnjbjcfbdclfaa.Pure
namespace Go.Proofs.Ytdnjbjcfbdclfaa.voicesRotates
open Go.ChangeShapes Go.WideShapes Go.ChangeAt Go.RowKit
open Go.ChangeMaps (open_string shut_string)
set_option linter.unusedVariables false
theorem own : ownKnob Try.prog.godebug = none := by kernel_rfl
theorem laidOut : laidOutB Try.prog = true := by kernel_rfl
def IsRow (k : IntKind) (w : World) (a : Option Addr) (len cap : Nat) (zs : List Int) : Prop :=
  (a = none ∧ len = 0 ∧ cap = 0 ∧ zs = []) ∨
  ∃ x, a = some x ∧ len ≤ cap ∧ cap ≤ maxLen ∧ zs.length = cap ∧ (∀ i, i < zs.length → w.cell? (x.add i) = some (.int k (zs.getD i 0))) ∧ ∀ n ∈ zs, (Lit.int k n).wf = true
set_option maxRecDepth 100000 in
theorem lifted (os : Os) (started : os.Started) (H : Type) (enc : TypeId × Value → H) :
    ReturnsInHanded {} Try.checked os 4 .any (Rows.voicesRotatesSpec.pre6 enc Try.prog Try.f4 Rows.voicesRotatesRow.domain false) (Rows.voicesRotatesSpec.post enc Try.prog Try.f4 false true false false) := by
  refine returnsInHanded_of_change_sized (C := Try.checked) own started (by kernel_rfl) Try.func4
    (ChangeSpec.witness6 (enc := enc) (C := Try.checked) false ⟨#[], #[.int .i64 0, .slice none 0 0, .slice none 0 0], []⟩ 8 (by kernel_rfl) (by kernel_rfl) (by kernel_rfl) (by kernel_rfl)) ?_
  intro W base args ds gs before hval0 hW hcnd hsz0 _
  have hsz : (DataW.weightsEach Try.prog (Try.f4.params.toList ++ Rows.voicesRotatesSpec.plain.varTypes Try.prog) (ds ++ gs)).all (· ≤ reachBytes) = true := hsz0
  have hval : ∀ (j : Nat) t v, Try.f4.params[j]? = some t → args[j]? = some v → Value.okWide Try.prog W .any base t v := hval0
  have hW' := hW
  obtain ⟨p, q, hA0, hV, rfl, hfz, hnd⟩ := hW
  have hA : DataW.TrodAll enc Try.prog W 0 (fun _ => true) true Try.f4.params.toList args.toList ds p := hA0
  rw [Try.params4] at hA hval hsz
  obtain ⟨v0, vs0, d0, ds0, p0, q0, hargs, rfl, rfl, h0, r0⟩ := trodAll_cons hA
  obtain ⟨v1, vs1, d1, ds1, p1, q1, rfl, rfl, rfl, h1, r1⟩ := trodAll_cons r0
  obtain ⟨v2, vs2, d2, ds2, p2, q2, rfl, rfl, rfl, h2, r2⟩ := trodAll_cons r1
  obtain ⟨rfl, rfl, rfl⟩ := trodAll_nil r2
  obtain rfl : args = #[v0, v1, v2] := by cases args; simp_all
  obtain ⟨rfl, rfl⟩ := trodVars_none hV
  obtain ⟨a0, rfl, rfl, rfl, w0⟩ := open_int Try.underlying3 (hval 0 3 v0 rfl rfl) h0
  obtain ⟨a1, len1, cap1, rfl⟩ := okWide_slice Try.underlying22 (hval 1 22 v1 rfl rfl)
  have k1 := h1
  have lt1 : ∀ x ∈ p1, x.block < W.heap.size := by obtain ⟨m, hm⟩ := k1; exact DataW.trod_lt m _ _ _ hm
  obtain ⟨z1, w1⟩ : ∃ zs, IsRow .i64 W a1 len1 cap1 zs := by
    obtain ⟨fuel, hf⟩ := h1
    rcases open_ints Try.underlying22 Try.underlying3 (by kernel_rfl) hf with ⟨hcs, _⟩ | ⟨x, l, c, zs, hcs, _, hl, hm, hz, _, hcell, hwz⟩
    · simp [Value.cells] at hcs
      obtain ⟨rfl, rfl, rfl⟩ := hcs
      exact ⟨[], .inl ⟨rfl, rfl, rfl, rfl⟩⟩
    · simp [Value.cells] at hcs
      obtain ⟨rfl, rfl, rfl⟩ := hcs
      exact ⟨zs, .inr ⟨_, rfl, hl, hm, by simpa using hz, hcell, hwz⟩⟩
  have y1 : len1 * 8 ≤ 140737488351232 := Go.Proofs.YtdnjbjcfbdclfaaW.PrintWords.sized_ints hsz (j := 1) (t := 22) rfl rfl Try.underlying22 Try.underlying3 (by kernel_rfl) (by kernel_rfl) h1
  obtain ⟨a2, len2, cap2, rfl⟩ := okWide_slice Try.underlying22 (hval 2 22 v2 rfl rfl)
  have k2 := h2
  have lt2 : ∀ x ∈ p2, x.block < W.heap.size := by obtain ⟨m, hm⟩ := k2; exact DataW.trod_lt m _ _ _ hm
  obtain ⟨z2, w2⟩ : ∃ zs, IsRow .i64 W a2 len2 cap2 zs := by
    obtain ⟨fuel, hf⟩ := h2
    rcases open_ints Try.underlying22 Try.underlying3 (by kernel_rfl) hf with ⟨hcs, _⟩ | ⟨x, l, c, zs, hcs, _, hl, hm, hz, _, hcell, hwz⟩
    · simp [Value.cells] at hcs
      obtain ⟨rfl, rfl, rfl⟩ := hcs
      exact ⟨[], .inl ⟨rfl, rfl, rfl, rfl⟩⟩
    · simp [Value.cells] at hcs
      obtain ⟨rfl, rfl, rfl⟩ := hcs
      exact ⟨zs, .inr ⟨_, rfl, hl, hm, by simpa using hz, hcell, hwz⟩⟩
  have y2 : len2 * 8 ≤ 140737488351232 := Go.Proofs.YtdnjbjcfbdclfaaW.PrintWords.sized_ints hsz (j := 2) (t := 22) rfl rfl Try.underlying22 Try.underlying3 (by kernel_rfl) (by kernel_rfl) h2
  clear hA0 hval0 hsz0 hsz
  refine (P.sackbutlaw06_VoicesRotates.walk Pure.VoicesRotates a0 a1 len1 cap1 z1 a2 len2 cap2 z2 W w0 w1 y1 w2 y2).mono fun e W' ⟨he, bel⟩ => ?_
  subst he
  exact ⟨_, rfl, _, _, _, [], _, [], hW', trodAll_mk1 (shut_bool Try.underlying4 _), (trodAll_cons_mk (shut_int Try.underlying3 w0) (trodAll_cons_mk (Below.trod laidOut (by kernel_rfl) (of_decide_eq_true (by kernel_rfl)) k1 bel lt1) (trodAll_cons_mk (Below.trod laidOut (by kernel_rfl) (of_decide_eq_true (by kernel_rfl)) k2 bel lt2) trodAll_mk0))), rfl, bel.frame _, fun h => by cases h⟩
theorem over : Rows.voicesRotatesRow.holds Try.pinned (OpenSpec.ofChange Rows.voicesRotatesSpec) :=
  OpenClaim.holds_of_wide 4 Try.f4 rfl rfl rfl rfl rfl rfl rfl ⟨rfl, rfl, rfl, rfl, rfl⟩ rfl rfl rfl rfl rfl (by kernel_rfl) Try.func4 (by kernel_rfl)
    (of_decide_eq_true (by kernel_rfl)) (by unfold Func.isWrapper; first | (rw [if_pos (by decide +kernel)]; kernel_rfl) | (rw [if_neg (by decide +kernel)]; exact ⟨rfl, rfl⟩))
    (fun os started H enc _ => lifted os started H enc)
theorem proved : Rows.VoicesRotatesSaid := over
#print axioms proved
end Go.Proofs.Ytdnjbjcfbdclfaa.voicesRotates
namespace Go.Proofs.Ytdnjbjcfbdclfaa
/-- The row, under a short name, for the claim. -/
theorem voicesRotates_holds : Rows.VoicesRotatesSaid := voicesRotates.proved
end Go.Proofs.Ytdnjbjcfbdclfaa
