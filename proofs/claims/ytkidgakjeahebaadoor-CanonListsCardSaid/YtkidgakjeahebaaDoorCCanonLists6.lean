/- Proved here: the Go function sackbutlaw02.CanonLists returns true for every input (its printed form comes to true), whatever its arguments. Conditions: none beyond the row's own reach in memory. -/
import Derived.LaidMore
import Derived.Stop.Joined
import Derived.ProofKit
import Derived.OpenShut
import Derived.Test.YtkidgakjeahebaaDoorRows
import Derived.WalkKit
import Derived.ShutString
import Derived.ChangeOld
import Derived.Below
import Derived.SizedLaws
import Derived.SevenTiedAt
import Derived.Test.YtkidgakjeahebaaDoorCards
import Derived.Test.YtkidgakjeahebaaDoorTie
import Derived.Test.YtkidgakjeahebaaDoorCCanonLists1
import Derived.Test.YtkidgakjeahebaaDoorCCanonLists2
import Derived.Test.YtkidgakjeahebaaDoorCCanonLists3
import Derived.Test.YtkidgakjeahebaaDoorCCanonLists4
import Derived.Test.YtkidgakjeahebaaDoorCCanonLists5
namespace Go.Proofs.YtkidgakjeahebaaDoor.P
open Go.RowKit Go.Proofs.YtkidgakjeahebaaDoorW.PrintWords Go.Proofs.YtkidgakjeahebaaDoorW.PrintLast Go.Proofs.YtkidgakjeahebaaDoorW.PrintMore
attribute [local go_sem] max2_int min2_int max_two min_two max_three min_three max_four min_four   -- for this text's walks alone
set_option linter.unusedVariables false
set_option linter.unusedSimpArgs false

/-! the document's period -/
theorem refIs_f {n a d : Nat} (hn : n ≤ 24) (hn1 : 1 ≤ n) (ha : a < 2 ^ n) (h1 : 1 ≤ d) : sackbutref02_Is.f (n : Int) (a : Int) (d : Int) = some (decide (IsPer n a d)) := by
  unfold sackbutref02_Is.f
  rw [if_pos (by omega)]
  by_cases hdn : d ≤ n
  · rw [if_pos (by omega), if_neg (by omega)]
    by_cases hm : n % d = 0
    · rw [if_pos (isPer_mod.2 hm)]
      by_cases e : d = n
      · subst e
        rw [if_pos rfl, decide_eq_true (isPer_all hn1 ha)]
      · rw [if_neg (by omega), moved_f hn hdn ha, Option.bind_some]
        congr 1
        rw [Bool.eq_iff_iff, beq_iff_eq, decide_eq_true_eq]
        unfold IsPer
        omega
    · rw [if_neg (fun h => hm (isPer_mod.1 h))]
      have : ¬ IsPer n a d := fun h => hm h.2.2.1
      rw [decide_eq_false this]
  · rw [if_neg (by omega)]
    have : ¬ IsPer n a d := fun h => hdn h.2.1
    rw [decide_eq_false this]
theorem refPeriod_ev {n a p : Nat} (hn : n ≤ 24) (hn1 : 1 ≤ n) (ha : a < 2 ^ n) (hp : IsPer n a p) (hl : ∀ d, d < p → ¬ IsPer n a d) : ∀ (m d : Nat), 1 ≤ d → d + m = p →
    Ev (fun k => sackbutref02_Period.l0 k (n : Int) (a : Int) (d : Int)) (p : Int) := by
  intro m
  have hpn := hp.2.1
  induction m with
  | zero =>
    intro d h1 hd
    have hdp : d = p := by omega
    subst hdp
    refine Ev.succ ?_
    simp only [sackbutref02_Period.l0]
    refine Ev.bind_some (refIs_f hn hn1 ha h1) ?_
    simp only [hp, decide_true, if_true]
    exact Ev.some _
  | succ m ih =>
    intro d h1 hd
    have go := ih (d + 1) (by omega) (by omega)
    have hw := next_w (d := d) (by omega)
    have hnot := hl d (by omega)
    refine Ev.succ ?_
    simp only [sackbutref02_Period.l0, hw]
    refine Ev.bind_some (refIs_f hn hn1 ha h1) ?_
    simp only [hnot, decide_false, Bool.false_eq_true, if_false]
    exact go
theorem refPeriod_val {n a : Nat} (hn1 : 1 ≤ n) (hn : n ≤ 24) (ha : a < 2 ^ n) : ∃ p : Nat, Ev (fun k => sackbutref02_Period.f k (n : Int) (a : Int)) (p : Int) ∧ 1 ≤ p ∧ p ≤ n ∧ (perB n a = true ↔ p < n) := by
  obtain ⟨p, hp, hl⟩ := least_per hn1 ha
  refine ⟨p, ?_, hp.1, hp.2.1, ?_⟩
  · unfold sackbutref02_Period.f
    exact refPeriod_ev hn hn1 ha hp hl (p - 1) 1 (Nat.le_refl _) (by have := hp.1; omega)
  · rw [perB_iff]
    constructor
    · rintro ⟨d, hd, h⟩
      have : ¬ d < p := fun h2 => hl d h2 h
      omega
    · intro h; exact ⟨p, h, hp⟩

end Go.Proofs.YtkidgakjeahebaaDoor.P
namespace Go.Proofs.YtkidgakjeahebaaDoor.P
open Go.RowKit Go.Proofs.YtkidgakjeahebaaDoorW.PrintWords Go.Proofs.YtkidgakjeahebaaDoorW.PrintLast Go.Proofs.YtkidgakjeahebaaDoorW.PrintMore
attribute [local go_sem] max2_int min2_int max_two min_two max_three min_three max_four min_four   -- for this text's walks alone
set_option linter.unusedVariables false
set_option linter.unusedSimpArgs false

/-! the document's number of beats -/
theorem refSize_loop (n : Nat) (hn : n ≤ 24) : ∀ (m a : Nat), a < 2 ^ n → chSize n a = m → ∀ c : Nat, c + m ≤ 1000 →
    Ev (fun k => sackbutref02_Size.l0 k (a : Int) (c : Int)) ((c + m : Nat) : Int) := by
  intro m
  induction m with
  | zero =>
    intro a ha hm c hc
    have h0 : a = 0 := eq_zero_of_chSize ha hm
    subst h0
    refine Ev.succ ?_
    simp only [sackbutref02_Size.l0, if_neg (show ¬ ((0 : Nat) : Int) > 0 by omega)]
    exact Ev.some _
  | succ m ih =>
    intro a ha hm c hc
    have hpos : 0 < a := by
      rcases Nat.eq_zero_or_pos a with h | h
      · subst h
        have := chSize_zero n
        omega
      · exact h
    have hp : 2 ^ n ≤ 2 ^ 24 := Nat.pow_le_pow_right (by omega) hn
    have h24 : (2 : Nat) ^ 24 = 16777216 := by decide
    have hw : wrap64 ((a : Int) - 1) = ((a - 1 : Nat) : Int) := by rw [wrap_id (by omega) (by omega)]; omega
    have hw2 : wrap64 ((c : Int) + 1) = ((c + 1 : Nat) : Int) := by rw [wrap_id (by omega) (by omega)]; omega
    refine Ev.succ ?_
    simp only [sackbutref02_Size.l0, if_pos (show (a : Int) > 0 by omega), hw, hw2, and_r hn ha (show a - 1 < 2 ^ n by omega)]
    have := ih (a &&& (a - 1)) (Nat.lt_of_le_of_lt Nat.and_le_left ha) (by have := chSize_drop ha hpos; omega) (c + 1) (by omega)
    rw [show c + (m + 1) = c + 1 + m by omega]
    exact this
theorem refSize_ev {n a : Nat} (hn : n ≤ 24) (ha : a < 2 ^ n) : Ev (fun k => sackbutref02_Size.f k (a : Int)) (chSize n a : Int) := by
  have := refSize_loop n hn (chSize n a) a ha rfl 0 (by have := chSize_le n a; omega)
  simpa [sackbutref02_Size.f] using this

end Go.Proofs.YtkidgakjeahebaaDoor.P
namespace Go.Proofs.YtkidgakjeahebaaDoor.P
open Go.RowKit Go.Proofs.YtkidgakjeahebaaDoorW.PrintWords Go.Proofs.YtkidgakjeahebaaDoorW.PrintLast Go.Proofs.YtkidgakjeahebaaDoorW.PrintMore
attribute [local go_sem] max2_int min2_int max_two min_two max_three min_three max_four min_four   -- for this text's walks alone
set_option linter.unusedVariables false
set_option linter.unusedSimpArgs false

def okL (n s a : Nat) : Bool := Nat.beq (cntBits n a) s && (Nat.beq (n % s) 0 && !(PL n a).isEmpty)
def listTo (n s m : Nat) : List Int := ((List.range m).filter fun j => okL n s (2 * j + 1)).map fun j => ((2 * j + 1 : Nat) : Int)
theorem listTo_succ (n s m : Nat) : listTo n s (m + 1) = listTo n s m ++ (if okL n s (2 * m + 1) then [((2 * m + 1 : Nat) : Int)] else []) := by
  unfold listTo
  rw [List.range_succ, List.filter_append, List.map_append]
  cases h : okL n s (2 * m + 1) <;> simp [h]
theorem listTo_len (n s m : Nat) : (listTo n s m).length ≤ m := by
  unfold listTo
  rw [List.length_map]
  exact Nat.le_trans (List.length_filter_le _ _) (by rw [List.length_range]; exact Nat.le_refl _)
theorem listTo_mem {n s m : Nat} {x : Int} (h : x ∈ listTo n s m) : ∃ a : Nat, x = (a : Int) ∧ a < 2 * m ∧ a.testBit 0 = true ∧ cntBits n a = s := by
  unfold listTo at h
  obtain ⟨j, hj, rfl⟩ := List.mem_map.1 h
  rw [List.mem_filter, List.mem_range] at hj
  refine ⟨2 * j + 1, rfl, by omega, by rw [Nat.testBit_zero]; exact decide_eq_true (by omega), ?_⟩
  have h2 := hj.2
  unfold okL at h2
  rw [Bool.and_eq_true] at h2
  exact Nat.eq_of_beq_eq_true h2.1
theorem wrap_two {a : Nat} (h : a ≤ 100000) : wrap64 ((a : Int) + 2) = ((a + 2 : Nat) : Int) := by rw [wrap_id (by omega) (by omega)]; omega
theorem half_pow {n : Nat} (hn : 2 ≤ n) : 2 ^ n = 2 * 2 ^ (n - 1) := by rw [← Nat.pow_succ']; congr 1; omega
theorem half_le {n : Nat} (hn : n ≤ 16) : 2 ^ (n - 1) ≤ 32768 := (Nat.pow_le_pow_right (n := 2) (by omega) (show n - 1 ≤ 15 by omega) : 2 ^ (n - 1) ≤ 2 ^ 15)
theorem odd_valid {n a : Nat} (hn : 2 ≤ n) (hn2 : n ≤ 24) (ha : a < 2 ^ n) (h0 : a.testBit 0 = true) : ValidR (n : Int) (a : Int) := by
  have e1 : (a : Int) < ((2 ^ n : Nat) : Int) := by omega
  rw [pow_cast] at e1
  refine ⟨by omega, by omega, by omega, by rw [Int.toNat_natCast]; exact e1, ?_⟩
  have := of_decide_eq_true ((Nat.testBit_zero a).symm.trans h0)
  omega
theorem len_lt {l m : Nat} (h : l ≤ m) (h2 : m ≤ 32768) : l < 17592186044416 := by omega
theorem list_loop {n s : Nat} (hn : 2 ≤ n) (hn2 : n ≤ 16) (hs : 1 ≤ s) : ∀ (r j : Nat), j + r = 2 ^ (n - 1) → Ev (fun k => canon_List.l0 k (s : Int) (n : Int) (listTo n s j) ((2 * j + 1 : Nat) : Int)) (listTo n s (2 ^ (n - 1)), 0) := by
  have hp := half_pow hn
  have hl := half_le hn2
  obtain ⟨N, hN⟩ : ∃ N, N = 2 ^ (n - 1) := ⟨_, rfl⟩
  rw [← hN] at hp hl ⊢
  intro r
  induction r with
  | zero =>
    intro j hj
    have e : j = N := by omega
    subst e
    refine Ev.succ ?_
    simp only [canon_List.l0]
    refine Ev.bind_some (all_f (by omega)) ?_
    have hnot : ¬ (((2 * j + 1 : Nat) : Int) ≤ ((2 ^ n - 1 : Nat) : Int)) := by rw [hp]; omega
    simp only [if_neg hnot]
    exact Ev.some _
  | succ r ih =>
    intro j hj
    have hgo := ih (j + 1) (by omega)
    have ha : 2 * j + 1 < 2 ^ n := by rw [hp]; omega
    have h0 : (2 * j + 1).testBit 0 = true := by rw [Nat.testBit_zero]; exact decide_eq_true (by omega)
    have hle : ((2 * j + 1 : Nat) : Int) ≤ ((2 ^ n - 1 : Nat) : Int) := by rw [hp]; omega
    have hw := wrap_two (a := 2 * j + 1) (by omega)
    rw [show 2 * j + 1 + 2 = 2 * (j + 1) + 1 by omega] at hw
    rw [listTo_succ] at hgo
    have hlen := len_lt (Nat.le_trans (listTo_len n s j) (show j ≤ N by omega)) hl
    have hv := odd_valid hn (by omega) ha h0
    have hfl : canon_circle_fills.f (n : Int) ((2 * j + 1 : Nat) : Int) = some (Nat.beq (n % cntBits n (2 * j + 1)) 0 && !(PL n (2 * j + 1)).isEmpty) := by
      unfold canon_circle_fills.f
      rw [if_pos hv, Int.toNat_natCast, Int.toNat_natCast]
    have hok : okL n s (2 * j + 1) = (Nat.beq (cntBits n (2 * j + 1)) s && (Nat.beq (n % s) 0 && !(PL n (2 * j + 1)).isEmpty)) := rfl
    have hcnt := count_f (n := n) (a := 2 * j + 1) (by omega) ha
    rw [← chSize_bits] at hcnt
    generalize 2 * j + 1 = a at hgo ha h0 hle hfl hok hcnt hw ⊢
    generalize 2 * (j + 1) + 1 = a2 at hgo hw
    generalize listTo n s j = L at hgo hlen ⊢
    refine Ev.succ ?_
    simp only [canon_List.l0]
    refine Ev.bind_some (all_f (by omega)) ?_
    simp only [if_pos hle, hw]
    refine Ev.bind_some hcnt ?_
    by_cases hc : cntBits n a = s
    · rw [hc] at hfl hok
      rw [show Nat.beq s s = true from Nat.beq_refl s, Bool.true_and] at hok
      rw [← hok] at hfl
      simp only [hc, if_true]
      refine Ev.bind_some hfl ?_
      cases ho : okL n s a with
      | true =>
        rw [ho, if_pos rfl] at hgo
        simp only [if_true, if_pos hlen]
        exact hgo
      | false =>
        rw [ho, if_neg (by decide), List.append_nil] at hgo
        simp only [Bool.false_eq_true, if_false]
        exact hgo
    · have ho : okL n s a = false := by rw [hok, show Nat.beq (cntBits n a) s = false from Bool.eq_false_iff.2 (fun h => hc (Nat.eq_of_beq_eq_true h)), Bool.false_and]
      rw [ho, if_neg (by decide), List.append_nil] at hgo
      simp only [if_neg (show ¬ ((cntBits n a : Nat) : Int) = (s : Int) by omega)]
      exact hgo
theorem refList_loop {n s : Nat} (hn : 2 ≤ n) (hn2 : n ≤ 16) (hs : 1 ≤ s) : ∀ (r j : Nat), j + r = 2 ^ (n - 1) → Ev (fun k => sackbutref02_List.l0 k (n : Int) (s : Int) (listTo n s j) ((2 * j + 1 : Nat) : Int)) (listTo n s (2 ^ (n - 1))) := by
  have hp := half_pow hn
  have hl := half_le hn2
  have hsh : shl .i64 1 (n : Int) = ((2 ^ n : Nat) : Int) := by rw [shl_n (by omega) (by omega), Int.toNat_natCast, pow_cast]
  obtain ⟨N, hN⟩ : ∃ N, N = 2 ^ (n - 1) := ⟨_, rfl⟩
  rw [← hN] at hp hl ⊢
  intro r
  induction r with
  | zero =>
    intro j hj
    have e : j = N := by omega
    subst e
    refine Ev.succ ?_
    have hnot : ¬ (((2 * j + 1 : Nat) : Int) < ((2 ^ n : Nat) : Int)) := by rw [hp]; omega
    simp only [sackbutref02_List.l0, if_pos (show (0 : Int) ≤ (n : Int) by omega), hsh, if_neg hnot]
    exact Ev.some _
  | succ r ih =>
    intro j hj
    have hgo := ih (j + 1) (by omega)
    have ha : 2 * j + 1 < 2 ^ n := by rw [hp]; omega
    have h0 : (2 * j + 1).testBit 0 = true := by rw [Nat.testBit_zero]; exact decide_eq_true (by omega)
    have hle : ((2 * j + 1 : Nat) : Int) < ((2 ^ n : Nat) : Int) := by rw [hp]; omega
    have hw := wrap_two (a := 2 * j + 1) (by omega)
    rw [show 2 * j + 1 + 2 = 2 * (j + 1) + 1 by omega] at hw
    rw [listTo_succ] at hgo
    have hlen := len_lt (Nat.le_trans (listTo_len n s j) (show j ≤ N by omega)) hl
    have hv := odd_valid hn (by omega) ha h0
    have hok : okL n s (2 * j + 1) = (Nat.beq (cntBits n (2 * j + 1)) s && (Nat.beq (n % s) 0 && !(PL n (2 * j + 1)).isEmpty)) := rfl
    have hcnt := refSize_ev (n := n) (a := 2 * j + 1) (by omega) ha
    rw [← chSize_bits] at hcnt
    have hpa := refPartner_f hv
    generalize 2 * j + 1 = a at hgo ha h0 hle hok hcnt hw hpa ⊢
    generalize 2 * (j + 1) + 1 = a2 at hgo hw
    generalize listTo n s j = L at hgo hlen ⊢
    have hskip : okL n s a = false → Ev (fun k => sackbutref02_List.j1 k (n : Int) (s : Int) L (a : Int) false) (listTo n s N) := fun ho => by
      rw [ho, if_neg (by decide), List.append_nil] at hgo
      refine Ev.succ ?_
      simp only [sackbutref02_List.j1, Bool.false_eq_true, if_false, hw]
      exact hgo
    refine Ev.succ ?_
    simp only [sackbutref02_List.l0, if_pos (show (0 : Int) ≤ (n : Int) by omega), hsh, if_pos hle]
    refine Ev.bind hcnt ?_
    by_cases hc : cntBits n a = s
    · rw [hc, show Nat.beq s s = true from Nat.beq_refl s, Bool.true_and] at hok
      simp only [hc, if_true, if_neg (show ¬ (s : Int) = 0 by omega)]
      have ht : Int.tmod (n : Int) (s : Int) = ((n % s : Nat) : Int) := by rw [Int.tmod_eq_emod_of_nonneg (by omega)]; rfl
      rw [ht]
      by_cases hm : n % s = 0
      · rw [hm, show Nat.beq 0 0 = true from rfl, Bool.true_and] at hok
        rw [hm, show (((0 : Nat) : Int) == 0) = true from rfl]
        refine Ev.succ ?_
        simp only [sackbutref02_List.j1, if_true, hw]
        refine Ev.bind_some hpa ?_
        by_cases e : PL n a = []
        · have ho : okL n s a = false := by rw [hok, e]; rfl
          rw [ho, if_neg (by decide), List.append_nil] at hgo
          simp only [if_pos e, if_neg (show ¬ (4 : Int) = 0 by decide)]
          exact hgo
        · have ho : okL n s a = true := by
            rw [hok]
            cases hq : PL n a with
            | nil => exact absurd hq e
            | cons x l => rfl
          rw [ho, if_pos rfl] at hgo
          simp only [if_neg e, if_true, if_pos hlen]
          exact hgo
      · have hb : Nat.beq (n % s) 0 = false := Bool.eq_false_iff.2 (fun h => hm (Nat.eq_of_beq_eq_true h))
        rw [hb, Bool.false_and] at hok
        rw [show (((n % s : Nat) : Int) == 0) = false from beq_eq_false_iff_ne.2 (by omega)]
        exact hskip hok
    · have ho : okL n s a = false := by rw [hok, show Nat.beq (cntBits n a) s = false from Bool.eq_false_iff.2 (fun h => hc (Nat.eq_of_beq_eq_true h)), Bool.false_and]
      simp only [if_neg (show ¬ ((cntBits n a : Nat) : Int) = (s : Int) by omega)]
      exact hskip ho
theorem refList_ev {n s : Nat} (hn : 2 ≤ n) (hn2 : n ≤ 16) (hs : 1 ≤ s) : Ev (fun k => sackbutref02_List.f k (n : Int) (s : Int)) (listTo n s (2 ^ (n - 1))) := by
  unfold sackbutref02_List.f
  exact refList_loop hn hn2 hs _ 0 (Nat.zero_add _)
theorem wrap_nxt {a : Nat} (h : a ≤ 100000) : wrap64 ((a : Int) + 1) = ((a + 1 : Nat) : Int) := by rw [wrap_id (by omega) (by omega)]; omega
theorem rplain_l2 {n s a : Nat} (hn : 2 ≤ n) (hn2 : n ≤ 16) (ha : a < 2 ^ n) (a0 : a.testBit 0 = true) (hap : perB n a = false) (x24 : List Int) (x25 x26 : Int) (t : Nat) (hend : Ev (fun k => sackbutref02_Plain.l1 k (n : Int) (s : Int) x24 x25 (wrap64 (x26 + 1))) []) : ∀ (r i : Nat), i + r = (listTo n t (2 ^ (n - 1))).length →
    Ev (fun k => sackbutref02_Plain.l2 k (n : Int) (s : Int) (a : Int) x24 x25 x26 (listTo n t (2 ^ (n - 1))) ((listTo n t (2 ^ (n - 1))).length : Int) (i : Int)) [] := by
  have hp := half_pow hn
  have hl := half_le hn2
  have hlen := listTo_len n t (2 ^ (n - 1))
  have hmem : ∀ x ∈ listTo n t (2 ^ (n - 1)), ∃ b : Nat, x = (b : Int) ∧ b < 2 ^ n ∧ b.testBit 0 = true := fun x hx => by
    obtain ⟨b, e, h1, h2, _⟩ := listTo_mem hx
    exact ⟨b, e, by rw [hp]; exact h1, h2⟩
  generalize listTo n t (2 ^ (n - 1)) = L at hlen hmem ⊢
  have hL : L.length ≤ 32768 := Nat.le_trans hlen hl
  clear hp hl hlen
  intro r
  induction r with
  | zero =>
    intro i hi
    refine Ev.succ ?_
    simp only [sackbutref02_Plain.l2, if_neg (show ¬ (i : Int) < (L.length : Int) by omega)]
    exact hend
  | succ r ih =>
    intro i hi
    have hgo := ih (i + 1) (by omega)
    have hw := wrap_nxt (a := i) (by omega)
    obtain ⟨b, e, hb, hb0⟩ := hmem _ (rd_mem (xs := L) (i := i) (by omega))
    obtain ⟨q, hq, _, q1, q2⟩ := refPeriod_val (n := n) (a := b) (by omega) (by omega) hb
    refine Ev.succ ?_
    simp only [sackbutref02_Plain.l2, if_pos (show (i : Int) < (L.length : Int) by omega), if_pos (show (0 : Int) ≤ (i : Int) by omega), e, hw]
    refine Ev.bind hq ?_
    by_cases hqn : q = n
    · have hbp : perB n b = false := by
        cases h : perB n b with
        | false => rfl
        | true => have := q2.1 h; omega
      have hnt : ¬ Tiled n a b := fun h => by
        have := hajos hn (by omega) ha hb a0 hb0 h
        rw [hap, hbp] at this
        rcases this with h | h <;> cases h
      simp only [if_pos (show (q : Int) = (n : Int) by omega)]
      refine Ev.bind (refTiles_ev (by omega) ha hb) ?_
      simp only [decide_eq_false hnt, Bool.false_eq_true, if_false]
      exact hgo
    · simp only [if_neg (show ¬ (q : Int) = (n : Int) by omega)]
      exact hgo
theorem rplain_l1 {n s : Nat} (hn : 2 ≤ n) (hn2 : n ≤ 16) (hs : 1 ≤ s) (hsn : s ≤ n) (hend : Ev (fun k => sackbutref02_Plain.l0 k (n : Int) (wrap64 ((s : Int) + 1))) []) : ∀ (r i : Nat), i + r = (listTo n s (2 ^ (n - 1))).length →
    Ev (fun k => sackbutref02_Plain.l1 k (n : Int) (s : Int) (listTo n s (2 ^ (n - 1))) ((listTo n s (2 ^ (n - 1))).length : Int) (i : Int)) [] := by
  have hp := half_pow hn
  have hl := half_le hn2
  have hlen := listTo_len n s (2 ^ (n - 1))
  have hmem : ∀ x ∈ listTo n s (2 ^ (n - 1)), ∃ b : Nat, x = (b : Int) ∧ b < 2 ^ n ∧ b.testBit 0 = true := fun x hx => by
    obtain ⟨b, e, h1, h2, _⟩ := listTo_mem hx
    exact ⟨b, e, by rw [hp]; exact h1, h2⟩
  have hdiv : Int.tdiv (n : Int) (s : Int) = ((n / s : Nat) : Int) := by rw [Int.tdiv_eq_ediv_of_nonneg (by omega)]; rfl
  have hd1 : 1 ≤ n / s := (Nat.le_div_iff_mul_le (by omega)).2 (by omega)
  have hd2 : n / s ≤ n := Nat.div_le_self n s
  have hwd : wrap64 ((n / s : Nat) : Int) = ((n / s : Nat) : Int) := wrap_id (by omega) (by omega)
  generalize n / s = t at hdiv hd1 hd2 hwd
  generalize hLL : listTo n s (2 ^ (n - 1)) = L at hlen hmem ⊢
  have hL : L.length ≤ 32768 := Nat.le_trans hlen hl
  clear hp hl hlen
  intro r
  induction r with
  | zero =>
    intro i hi
    refine Ev.succ ?_
    simp only [sackbutref02_Plain.l1, if_neg (show ¬ (i : Int) < (L.length : Int) by omega)]
    exact hend
  | succ r ih =>
    intro i hi
    have hgo := ih (i + 1) (by omega)
    have hw := wrap_nxt (a := i) (by omega)
    obtain ⟨b, e, hb, hb0⟩ := hmem _ (rd_mem (xs := L) (i := i) (by omega))
    obtain ⟨q, hq, _, q1, q2⟩ := refPeriod_val (n := n) (a := b) (by omega) (by omega) hb
    refine Ev.succ ?_
    simp only [sackbutref02_Plain.l1, if_pos (show (i : Int) < (L.length : Int) by omega), if_pos (show (0 : Int) ≤ (i : Int) by omega), e, hw]
    refine Ev.bind hq ?_
    by_cases hqn : q < n
    · simp only [if_pos (show (q : Int) < (n : Int) by omega)]
      exact hgo
    · have hbp : perB n b = false := by
        cases h : perB n b with
        | false => rfl
        | true => have := q2.1 h; omega
      simp only [if_neg (show ¬ (q : Int) < (n : Int) by omega), if_neg (show ¬ (s : Int) = 0 by omega), hdiv, hwd]
      refine Ev.bind (refList_ev hn hn2 hd1) ?_
      rw [← hw] at hgo
      exact rplain_l2 hn hn2 hb hb0 hbp _ _ _ t hgo _ 0 (Nat.zero_add _)
theorem rplain_l0 {n : Nat} (hn : 2 ≤ n) (hn2 : n ≤ 16) : ∀ (r s : Nat), 1 ≤ s → s + r = n + 1 → Ev (fun k => sackbutref02_Plain.l0 k (n : Int) (s : Int)) [] := by
  intro r
  induction r with
  | zero =>
    intro s h1 hs
    refine Ev.succ ?_
    simp only [sackbutref02_Plain.l0, if_neg (show ¬ (s : Int) ≤ (n : Int) by omega)]
    refine Ev.succ ?_
    simp only [sackbutref02_Plain.l3, List.length_nil]
    exact Ev.some _
  | succ r ih =>
    intro s h1 hs
    have hgo := ih (s + 1) (by omega) (by omega)
    have hw := wrap_nxt (a := s) (by omega)
    refine Ev.succ ?_
    simp only [sackbutref02_Plain.l0, if_pos (show (s : Int) ≤ (n : Int) by omega), if_neg (show ¬ (s : Int) = 0 by omega)]
    refine Ev.ite (fun _ => ?_) (fun _ => ?_)
    · refine Ev.bind (refList_ev hn hn2 h1) ?_
      rw [← hw] at hgo
      exact rplain_l1 hn hn2 h1 (by omega) hgo _ 0 (Nat.zero_add _)
    · rw [hw]; exact hgo
theorem CanonLists : sackbutlaw02_CanonLists.Pure := by
  intro a0 a1 _ _
  refine Ev.rounds (g := fun k => sackbutlaw02_CanonLists.f k a0 a1) ?_
  unfold sackbutlaw02_CanonLists.f
  have bad : ¬ (2 ≤ a0 ∧ a0 ≤ 16 ∧ 1 ≤ a1 ∧ a1 ≤ a0) → Ev (fun k => canon_List.f k a0 a1) ([], 2) := fun h => by
    have hj : Ev (fun k => canon_List.j0 k a1 a0 true) ([], 2) := by
      refine Ev.succ ?_
      simp only [canon_List.j0, if_true]
      exact Ev.some _
    unfold canon_List.f
    refine Ev.bind_some (valid0_f a0) ?_
    refine Ev.ite (fun h1 => ?_) (fun _ => hj)
    have h1 := of_decide_eq_true h1
    refine Ev.ite (fun _ => hj) (fun h2 => ?_)
    refine Ev.ite (fun _ => hj) (fun h3 => ?_)
    rw [decide_eq_true (show a1 > a0 by omega)]
    exact hj
  by_cases hn : 2 ≤ a0 ∧ a0 ≤ 16
  · obtain ⟨n, rfl⟩ : ∃ n : Nat, a0 = (n : Int) := ⟨a0.toNat, by omega⟩
    have hpl : canon_Plain.f (n : Int) = some ([], 0) := by unfold canon_Plain.f; rw [if_pos hn]
    have hrp : Ev (fun k => sackbutref02_Plain.f k (n : Int)) [] := by
      unfold sackbutref02_Plain.f
      exact rplain_l0 (by omega) (by omega) n 1 (Nat.le_refl _) (by omega)
    have hq : Ev (fun k => slices_Equal_2_int_2_int.f k [] []) true := by
      unfold slices_Equal_2_int_2_int.f
      simp only [List.length_nil, if_true]
      refine Ev.succ ?_
      simp only [slices_Equal_2_int_2_int.l0]
      exact Ev.some _
    have rest : ∀ (L : List Int) (e : Int), Ev (fun k => sackbutlaw02_CanonLists.j1 k (n : Int) a1 L e false) true → Ev (fun k => sackbutlaw02_CanonLists.j0 k (n : Int) a1 L e [] 0 false) true := fun L e h => by
      refine Ev.succ ?_
      simp only [sackbutlaw02_CanonLists.j0, Bool.false_eq_true, if_false]
      refine Ev.bind hrp ?_
      refine Ev.bind hq ?_
      simp only [if_true]
      refine Ev.bind awake_ev ?_
      simp only [Bool.not_true]
      exact h
    by_cases hs : 1 ≤ a1 ∧ a1 ≤ (n : Int)
    · obtain ⟨s, rfl⟩ : ∃ s : Nat, a1 = (s : Int) := ⟨a1.toNat, by omega⟩
      have hL : Ev (fun k => canon_List.f k (n : Int) (s : Int)) (listTo n s (2 ^ (n - 1)), 0) := by
        unfold canon_List.f
        refine Ev.bind_some (valid0_f _) ?_
        simp only [decide_eq_true (show 2 ≤ (n : Int) ∧ (n : Int) ≤ 24 by omega), if_true, if_neg (show ¬ (n : Int) > 16 by omega), if_neg (show ¬ (s : Int) < 1 by omega), decide_eq_false (show ¬ (s : Int) > (n : Int) by omega)]
        refine Ev.succ ?_
        simp only [canon_List.j0, Bool.false_eq_true, if_false]
        exact list_loop (by omega) (by omega) (by omega) _ 0 (Nat.zero_add _)
      refine Ev.bind hL ?_
      refine Ev.bind_some hpl ?_
      simp only [if_neg (show ¬ (n : Int) < 2 by omega), decide_eq_false (show ¬ (n : Int) > 16 by omega)]
      refine rest _ _ ?_
      refine Ev.succ ?_
      simp only [sackbutlaw02_CanonLists.j1, Bool.false_eq_true, if_false, if_neg (show ¬ (s : Int) < 1 by omega), decide_eq_false (show ¬ (s : Int) > (n : Int) by omega)]
      refine Ev.succ ?_
      simp only [sackbutlaw02_CanonLists.j2, Bool.false_eq_true, if_false]
      refine Ev.bind (refList_ev (by omega) (by omega) (by omega)) ?_
      have hlen := Nat.le_trans (listTo_len n s (2 ^ (n - 1))) (half_le (by omega))
      refine Ev.bind (Equal_ev _ _ (by omega)) ?_
      simp only [decide_true, if_true]
      exact Ev.some _
    · refine Ev.bind (bad (by omega)) ?_
      refine Ev.bind_some hpl ?_
      simp only [if_neg (show ¬ (n : Int) < 2 by omega), decide_eq_false (show ¬ (n : Int) > 16 by omega)]
      refine rest _ _ ?_
      have hj2 : Ev (fun k => sackbutlaw02_CanonLists.j2 k (n : Int) a1 [] 2 true) true := by
        refine Ev.succ ?_
        simp only [sackbutlaw02_CanonLists.j2, if_true, List.length_nil]
        exact Ev.some _
      refine Ev.succ ?_
      simp only [sackbutlaw02_CanonLists.j1, Bool.false_eq_true, if_false]
      refine Ev.ite (fun _ => hj2) (fun h1 => ?_)
      rw [decide_eq_true (show a1 > (n : Int) by omega)]
      exact hj2
  · have hpl : canon_Plain.f a0 = some ([], 2) := by unfold canon_Plain.f; rw [if_neg hn]
    refine Ev.bind (bad (by omega)) ?_
    refine Ev.bind_some hpl ?_
    have hj : Ev (fun k => sackbutlaw02_CanonLists.j0 k a0 a1 [] 2 [] 2 true) true := by
      have hz : wrap64 (((0 : Nat) : Int) + ((0 : Nat) : Int)) = 0 := wrap_id (by simp) (by simp)
      refine Ev.succ ?_
      simp only [sackbutlaw02_CanonLists.j0, if_true, List.length_nil, hz]
      exact Ev.bind awake_ev (Ev.some _)
    refine Ev.ite (fun _ => hj) (fun h1 => ?_)
    rw [decide_eq_true (show a0 > 16 by omega)]
    exact hj

end Go.Proofs.YtkidgakjeahebaaDoor.P
namespace Go.Proofs.YtkidgakjeahebaaDoor.Pure
theorem CanonLists : Go.Proofs.YtkidgakjeahebaaDoor.P.sackbutlaw02_CanonLists.Pure := Go.Proofs.YtkidgakjeahebaaDoor.P.CanonLists
end Go.Proofs.YtkidgakjeahebaaDoor.Pure
namespace Go.Proofs.YtkidgakjeahebaaDoor.P
open Go.RowKit Go.Proofs.YtkidgakjeahebaaDoorW.PrintWords Go.Proofs.YtkidgakjeahebaaDoorW.PrintLast Go.Proofs.YtkidgakjeahebaaDoorW.PrintMore
attribute [local go_sem] max2_int min2_int max_two min_two max_three min_three max_four min_four   -- for this text's walks alone
set_option linter.unusedVariables false
set_option linter.unusedSimpArgs false

open Go.ChangeShapes Go.WideShapes Go.ChangeAt Go.WideElems
/-! what the row's listed tables give the walks -/
def doorLaid2 : List (String × DataW Unit) := [("math/bits.deBruijn32tab", Rows.laid_math_bits_deBruijn32tab), ("math/bits.deBruijn64tab", Rows.laid_math_bits_deBruijn64tab)]
theorem door_g64 : Tryd.prog.globalNamed "math/bits.deBruijn64tab" = some 1 := by kernel_rfl
theorem door_t64 : (Tryd.prog.globals[1]?).map (·.type) = some 85 := by kernel_rfl
theorem door_met (os : Os) (args : Array Value) : laidMetH Tryd.prog doorLaid2 ((World.doorLaid Tryd.prog 19 os).forCall (fun _ _ => 0) ⟨#[], args, []⟩).memory :=
  laidMetH_of_parts3 (fuel := 8) (laidMet_of_run' 8 (by kernel_rfl) (by kernel_rfl)) (by kernel_rfl) (by kernel_rfl)
theorem door_tab : (Rows.laid_math_bits_deBruijn64tab : DataW Unit) = .agg (tzTab.map fun (n : Nat) => .lit (.int .u8 (n : Int))) := rfl
theorem door_c8 : Tryd.prog.cellsOf 5 = 1 := by kernel_rfl
theorem tabs_of_laid {W : World} (h : laidMetH Tryd.prog doorLaid2 W) : Tabs W := by
  rw [MakeChecks.laidMetH_plain _ _ _ (by kernel_rfl)] at h
  obtain ⟨ps, ⟨g0, t0, cs0, f0, p0, q0, hg0, ht0, hv0, hd0, ⟨g1, t1, cs1, f1, p1, q1, hg1, ht1, hv1, hd1, _, _⟩, _⟩, _, _⟩ := h
  obtain rfl := Option.some.inj (door_g64.symm.trans hg1)
  obtain rfl := Option.some.inj (door_t64.symm.trans ht1)
  obtain ⟨xs, m1, rfl, hx1, hlen, hn, hel⟩ := DataW.trod_array Tryd.underlying85 hd1
  simp only [Prod.mk.injEq] at hx1
  have hl := hx1.1
  rw [door_tab] at hl
  simp only [DataW.agg.injEq] at hl
  intro i hi
  have h0 := hel i hi
  obtain ⟨x, hx⟩ : ∃ x, xs[i]? = some x := ⟨xs[i], by simp [hn, hi]⟩
  rw [hx] at h0
  obtain ⟨k, e1, e2, _⟩ := DataW.trod_int Tryd.underlying5 h0
  have hk := congrArg (fun l => l[i]?) hl
  simp only [List.getElem?_map, hx, Option.map_some, e2] at hk
  have ht : tzTab[i]? = some (tzTab.getD i 0) := by
    rw [List.getD_eq_getElem?_getD]
    have hlen : tzTab.length = 64 := by decide
    rw [List.getElem?_eq_getElem (by omega)]; rfl
  rw [ht] at hk
  simp only [Option.map_some, Option.some.injEq, DataW.lit.injEq, Lit.int.injEq, true_and] at hk
  rw [door_c8, Nat.mul_one] at e1
  have hc := World.var?_cell hg1 hv1 i
  rw [hc]
  have : cs1.toList[i]? = some (.int .u8 k) := by
    have := congrArg (fun l => l[0]?) e1
    simpa using this
  rw [← Array.getElem?_toList, this, hk]

end Go.Proofs.YtkidgakjeahebaaDoor.P
namespace Go.Proofs.YtkidgakjeahebaaDoor.canonLists
open Go.ChangeShapes Go.WideShapes Go.ChangeAt Go.RowKit
open Go.ChangeMaps (open_string shut_string)
set_option linter.unusedVariables false
theorem own : ownKnob Tryd.prog.godebug = none := by kernel_rfl
set_option maxRecDepth 100000 in
theorem lifted (os : Os) (started : os.Started) (H : Type) (enc : TypeId × Value → H) :
    ReturnsInHanded {} Tryd.checked os 8 .any (fun w args => (Rows.canonListsSpec.pre enc Tryd.prog Tryd.f8 [] false w args ∧ laidMetH Tryd.prog P.doorLaid2 w) ∧ sizedMet enc Tryd.prog Tryd.f8 (OpenSpec.ofChange Rows.canonListsSpec) false w args) (Rows.canonListsSpec.post enc Tryd.prog Tryd.f8 false true false false) := by
  refine returnsInHanded_of_change_and (C := Tryd.checked) (X := fun w _ => laidMetH Tryd.prog P.doorLaid2 w) (fun _ _ _ hh h => h.of_heap hh) own started (by kernel_rfl) Tryd.func8
    (ChangeSpec.witness_shaped (enc := enc) (C := Tryd.checked) (os := os) (X := fun w _ => laidMetH Tryd.prog P.doorLaid2 w) false (World.doorLaid Tryd.prog 19 os) #[.int .i64 0, .int .i64 0] 8 rfl (World.shaped_of_RefB (by kernel_rfl) (by kernel_rfl)) (by kernel_rfl) (by kernel_rfl) (by kernel_rfl) (P.door_met os _)) ?_
  intro W base args ds gs before hval0 hW hcnd hsz0 hL _
  have hsz : (DataW.weightsEach Tryd.prog (Tryd.f8.params.toList ++ Rows.canonListsSpec.plain.varTypes Tryd.prog) (ds ++ gs)).all (· ≤ reachBytes) = true := hsz0
  have hval : ∀ (j : Nat) t v, Tryd.f8.params[j]? = some t → args[j]? = some v → Value.okWide Tryd.prog W .any base t v := hval0
  have hW' := hW
  obtain ⟨p, q, hA0, hV, rfl, hfz, hnd⟩ := hW
  have hA : DataW.TrodAll enc Tryd.prog W 0 (fun _ => true) true Tryd.f8.params.toList args.toList ds p := hA0
  rw [Tryd.params8] at hA hval hsz
  obtain ⟨v0, vs0, d0, ds0, p0, q0, hargs, rfl, rfl, h0, r0⟩ := trodAll_cons hA
  obtain ⟨v1, vs1, d1, ds1, p1, q1, rfl, rfl, rfl, h1, r1⟩ := trodAll_cons r0
  obtain ⟨rfl, rfl, rfl⟩ := trodAll_nil r1
  obtain rfl : args = #[v0, v1] := by cases args; simp_all
  obtain ⟨rfl, rfl⟩ := trodVars_none hV
  obtain ⟨a0, rfl, rfl, rfl, w0⟩ := open_int Tryd.underlying3 (hval 0 3 v0 rfl rfl) h0
  obtain ⟨a1, rfl, rfl, rfl, w1⟩ := open_int Tryd.underlying3 (hval 1 3 v1 rfl rfl) h1
  clear hA0 hval0 hsz0 hsz
  refine (P.sackbutlaw02_CanonLists.walk Pure.CanonLists a0 a1 W (P.tabs_of_laid hL) w0 w1).mono fun e W' ⟨he, bel⟩ => ?_
  subst he
  exact ⟨_, rfl, _, _, _, [], _, [], hW', trodAll_mk1 (shut_bool Tryd.underlying4 _), (trodAll_cons_mk (shut_int Tryd.underlying3 w0) (trodAll_cons_mk (shut_int Tryd.underlying3 w1) trodAll_mk0)), rfl, bel.frame _, fun h => by cases h⟩
theorem over : Rows.canonListsRow.holds Tryd.pinned (OpenSpec.ofChange Rows.canonListsSpec) :=
  OpenClaim.holds_of_wide 8 Tryd.f8 rfl rfl rfl rfl rfl rfl rfl ⟨rfl, rfl, rfl, rfl, rfl⟩ rfl rfl rfl rfl rfl (by kernel_rfl) Tryd.func8 (by kernel_rfl)
    (of_decide_eq_true (by kernel_rfl)) (by unfold Func.isWrapper; first | (rw [if_pos (by decide +kernel)]; kernel_rfl) | (rw [if_neg (by decide +kernel)]; exact ⟨rfl, rfl⟩))
    (fun os started H enc _ => lifted os started H enc)
theorem proved : Rows.CanonListsSaid := over
#print axioms proved
end Go.Proofs.YtkidgakjeahebaaDoor.canonLists
namespace Go.Proofs.YtkidgakjeahebaaDoor
theorem canonLists_row : Rows.CanonListsSaid := canonLists.proved
/-- The tied card, for the claim. -/
theorem canonLists_holds : Rows.CanonListsCardSaid :=
  Claim7.holds_tied_plain_at .later [] [.data, .data] true (true, "2f6bef5c5cfa684a08fccc7872b5524e7a2ff07ef34c06b0423e6453ed67e790") false
    canonLists_row (fun _ h => by cases h) (by kernel_rfl) (fun _ h => by cases h) canonLists_row_tie rfl ⟨rfl, rfl⟩ (by kernel_rfl) rfl
    (fun f fn hf hfn => by
      obtain rfl : f = 8 := Option.some.inj ((show Tryd.prog.funcNamed "sackbut/sackbutlaw02.CanonLists" = some 8 by kernel_rfl).symm.trans hf) |>.symm
      obtain rfl : fn = Tryd.f8 := (Option.some.inj (Tryd.func8.symm.trans hfn)).symm
      exact ⟨by kernel_rfl, fun j t ht => by
        rw [Tryd.params8] at ht
        have hm : t ∈ [3, 3] := by simpa using Array.mem_of_getElem? ht
        have hall : ([3, 3].all fun u => !Tryd.prog.wantsStandIn u) = true := by kernel_rfl
        exact (show Tryd.prog.wantsStandIn t = false by simpa using List.all_eq_true.1 hall t hm)⟩)
    (by kernel_rfl)
end Go.Proofs.YtkidgakjeahebaaDoor
