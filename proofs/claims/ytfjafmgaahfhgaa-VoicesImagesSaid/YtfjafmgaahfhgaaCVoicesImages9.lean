/- Proved here: the Go function sackbutlaw06.VoicesImages returns true for every input (its printed form comes to true), whatever its arguments. Conditions: none beyond the row's own reach in memory. -/
import Derived.Test.YtfjafmgaahfhgaaRows
import Derived.WalkKit
import Derived.ProofKit
import Derived.OpenShut
import Derived.ShutString
import Derived.ChangeOld
import Derived.Below
import Derived.SizedLaws
import Derived.Test.YtfjafmgaahfhgaaWSized
import Derived.Test.YtfjafmgaahfhgaaCVoicesImages1
import Derived.Test.YtfjafmgaahfhgaaCVoicesImages2
import Derived.Test.YtfjafmgaahfhgaaCVoicesImages3
import Derived.Test.YtfjafmgaahfhgaaCVoicesImages4
import Derived.Test.YtfjafmgaahfhgaaCVoicesImages5
import Derived.Test.YtfjafmgaahfhgaaCVoicesImages6
import Derived.Test.YtfjafmgaahfhgaaCVoicesImages7
import Derived.Test.YtfjafmgaahfhgaaCVoicesImages8
namespace Go.Proofs.Ytfjafmgaahfhgaa.P
open Go.RowKit Go.Proofs.YtfjafmgaahfhgaaW.PrintWords Go.Proofs.YtfjafmgaahfhgaaW.PrintLast Go.Proofs.YtfjafmgaahfhgaaW.PrintMore
attribute [local go_sem] max2_int min2_int max_two min_two max_three min_three max_four min_four   -- for this text's walks alone
set_option linter.unusedVariables false
set_option linter.unusedSimpArgs false

/-! the cost is the least sum over the orders of the other voicing's tones -/
def sumZ (n : Int) : List Int → List Int → Int
  | x :: a, y :: c => dsN n x y + sumZ n a c
  | _, _ => 0
theorem perm_lift {α β : Type} (f : α → β) {c d : List β} (h : c.Perm d) : ∀ l : List α, d = l.map f → ∃ x : List α, x.Perm l ∧ c = x.map f := by
  induction h with
  | nil => intro l hl; exact ⟨[], (by cases l with | nil => exact List.Perm.nil | cons _ _ => cases hl), rfl⟩
  | cons x h ih =>
    intro l hl
    cases l with
    | nil => cases hl
    | cons y l =>
      rw [List.map_cons] at hl
      injection hl with h1 h2
      obtain ⟨z, hz, e⟩ := ih l h2
      exact ⟨y :: z, hz.cons y, by rw [List.map_cons, ← e, h1]⟩
  | swap x y t =>
    intro l hl
    match l, hl with
    | u :: v :: l, hl =>
      rw [List.map_cons, List.map_cons] at hl
      injection hl with h1 h2
      injection h2 with h2 h3
      exact ⟨v :: u :: l, List.Perm.swap u v l, by rw [List.map_cons, List.map_cons, h1, h2, h3]⟩
  | trans h1 h2 ih1 ih2 =>
    intro l hl
    obtain ⟨x, hx, e⟩ := ih2 l hl
    obtain ⟨y, hy, e2⟩ := ih1 x e
    exact ⟨y, hy.trans hx, e2⟩
def sumP (n : Int) (p : List (Int × Int)) : Int := (p.map fun q => dsN n q.1 q.2).sum
theorem sumZ_pairs (n : Int) : ∀ p : List (Int × Int), sumZ n (p.map Prod.fst) (p.map Prod.snd) = sumP n p
  | [] => rfl
  | q :: p => by
    unfold sumP
    rw [List.map_cons, List.map_cons, List.map_cons, List.sum_cons, sumZ, sumZ_pairs n p]; rfl
theorem zip_pairs : ∀ (a c : List Int), a.length = c.length → (a.zip c).map Prod.fst = a ∧ (a.zip c).map Prod.snd = c
  | [], [], _ => ⟨rfl, rfl⟩
  | x :: a, y :: c, h => by
    obtain ⟨h1, h2⟩ := zip_pairs a c (by simpa using h)
    rw [List.zip_cons_cons, List.map_cons, List.map_cons, h1, h2]
    exact ⟨rfl, rfl⟩
theorem sum_perm9 {l l' : List Int} (h : l.Perm l') : l.sum = l'.sum := by
  induction h with
  | nil => rfl
  | cons x _ ih => rw [List.sum_cons, List.sum_cons, ih]
  | swap x y l => simp only [List.sum_cons]; omega
  | trans _ _ ih1 ih2 => exact ih1.trans ih2
theorem sumP_perm (n : Int) {p q : List (Int × Int)} (h : p.Perm q) : sumP n p = sumP n q := by
  have h2 := sum_perm9 (h.map (fun q => dsN n q.1 q.2))
  unfold sumP
  exact h2
/-- the first tones in another order -/
theorem sumZ_move {n : Int} {a a' c : List Int} (h : a'.Perm a) (hl : a.length = c.length) : ∃ c', c'.Perm c ∧ sumZ n a' c' = sumZ n a c := by
  obtain ⟨e1, e2⟩ := zip_pairs a c hl
  obtain ⟨p, hp, e⟩ := perm_lift Prod.fst h (a.zip c) e1.symm
  refine ⟨p.map Prod.snd, ?_, ?_⟩
  · have := hp.map Prod.snd
    rwa [e2] at this
  · rw [e, sumZ_pairs, sumP_perm n hp, ← sumZ_pairs, e1, e2]
theorem ds_symm {n x y : Int} (hn : 2 ≤ n) : dsN n x y = dsN n y x := by
  have h : ∀ x y : Int, dsN n x y ≤ dsN n y x := fun x y => by
    obtain ⟨c, hc⟩ := mv_cong n y x
    have := ds_le (n := n) (x := x) (y := y) (m := -(mvN n y x)) (c := -c) hn (by rw [Int.mul_neg]; omega)
    have e : dsN n y x = max (mvN n y x) (-(mvN n y x)) := rfl
    omega
  exact Int.le_antisymm (h x y) (h y x)
theorem sumZ_symm {n : Int} (hn : 2 ≤ n) : ∀ a c : List Int, sumZ n a c = sumZ n c a
  | [], [] => rfl
  | [], _ :: _ => rfl
  | _ :: _, [] => rfl
  | x :: a, y :: c => by unfold sumZ; rw [ds_symm hn, sumZ_symm hn a c]
theorem ds_tri {n x y z : Int} (hn : 2 ≤ n) : dsN n x z ≤ dsN n x y + dsN n y z := by
  obtain ⟨c1, h1⟩ := mv_cong n x y
  obtain ⟨c2, h2⟩ := mv_cong n y z
  have := ds_le (n := n) (x := x) (y := z) (m := mvN n x y + mvN n y z) (c := c1 + c2) hn (by rw [Int.mul_add]; omega)
  have e1 : dsN n x y = max (mvN n x y) (-(mvN n x y)) := rfl
  have e2 : dsN n y z = max (mvN n y z) (-(mvN n y z)) := rfl
  omega
theorem sumZ_tri {n : Int} (hn : 2 ≤ n) : ∀ a b c : List Int, a.length = b.length → b.length = c.length → sumZ n a c ≤ sumZ n a b + sumZ n b c
  | [], [], [], _, _ => by simp [sumZ]
  | x :: a, y :: b, z :: c, h1, h2 => by
    have := sumZ_tri hn a b c (by simpa using h1) (by simpa using h2)
    have := ds_tri (x := x) (y := y) (z := z) hn
    unfold sumZ
    omega
theorem sumZ_nonneg {n : Int} (hn : 2 ≤ n) : ∀ a c : List Int, 0 ≤ sumZ n a c
  | [], [] => Int.le_refl _
  | [], _ :: _ => Int.le_refl _
  | _ :: _, [] => Int.le_refl _
  | x :: a, y :: c => by
    have := sumZ_nonneg hn a c
    have := (dsN_bd (x := x) (y := y) hn).1
    unfold sumZ; omega
theorem ds_self {n x : Int} (hn : 2 ≤ n) : dsN n x x = 0 := by
  have := ds_le (n := n) (x := x) (y := x) (m := 0) (c := 0) hn (by simp)
  have := (dsN_bd (x := x) (y := x) hn).1
  omega
theorem ds_zero {n x y : Int} (hn : 2 ≤ n) (hx : 0 ≤ x ∧ x < n) (hy : 0 ≤ y ∧ y < n) (h : dsN n x y = 0) : x = y := by
  obtain ⟨c, hc⟩ := mv_cong n x y
  have e : dsN n x y = max (mvN n x y) (-(mvN n x y)) := rfl
  have h0 : mvN n x y = 0 := by omega
  rw [h0] at hc
  rcases Int.lt_trichotomy c 0 with h | h | h
  · have := Int.mul_le_mul_of_nonneg_left (show c ≤ -1 by omega) (show 0 ≤ n by omega)
    rw [Int.mul_neg, Int.mul_one] at this; omega
  · rw [h, Int.mul_zero] at hc; omega
  · have := Int.mul_le_mul_of_nonneg_left (show 1 ≤ c by omega) (show 0 ≤ n by omega)
    rw [Int.mul_one] at this; omega
theorem sumZ_self {n : Int} (hn : 2 ≤ n) : ∀ a : List Int, sumZ n a a = 0
  | [] => rfl
  | x :: a => by unfold sumZ; rw [ds_self hn, sumZ_self hn a]; rfl
theorem sumZ_zero {n : Int} (hn : 2 ≤ n) : ∀ a c : List Int, a.length = c.length → (∀ x ∈ a, 0 ≤ x ∧ x < n) → (∀ x ∈ c, 0 ≤ x ∧ x < n) → sumZ n a c = 0 → a = c
  | [], [], _, _, _, _ => rfl
  | x :: a, y :: c, hl, ha, hc, h => by
    unfold sumZ at h
    have h1 := sumZ_nonneg hn a c
    have h2 := (dsN_bd (x := x) (y := y) hn).1
    rw [ds_zero hn (ha x (by simp)) (hc y (by simp)) (by omega), sumZ_zero hn a c (by simpa using hl) (fun z hz => ha z (by simp [hz])) (fun z hz => hc z (by simp [hz])) (by omega)]
/-- a leading is an order of the other tones -/
theorem sumF_sumZ (n : Int) (b : List Int) : ∀ (a : List Int) (x : List Nat) (F : Nat → Int) (s : Nat), a.length = x.length → (∀ i, i < a.length → F (s + i) = a.getD i 0) → sumF (fun i y => dsN n (F i) (toneI b y)) x s = sumZ n a (x.map (toneI b))
  | [], [], _, _, _, _ => rfl
  | z :: a, y :: x, F, s, h, hF => by
    rw [sumF, List.map_cons, sumZ, sumF_sumZ n b a x F (s + 1) (by simpa using h) (fun i hi => by rw [show s + 1 + i = s + (i + 1) by omega, hF (i + 1) (by simpa using hi)]; rfl), show F s = z from hF 0 (by simp)]
theorem prV_sumZ {n : Int} {a b : List Int} {x : List Nat} (h : a.length = x.length) : prV n a b x = sumZ n a (x.map (toneI b)) := by
  unfold prV
  rw [prI_sumF]
  exact sumF_sumZ n b a x (toneI a) 0 h (fun i _ => by rw [Nat.zero_add]; rfl)
theorem range_tones (b : List Int) : (List.range b.length).map (toneI b) = b := by
  refine List.ext_getElem (by simp) (fun i h1 h2 => ?_)
  rw [List.getElem_map, List.getElem_range]
  unfold toneI
  rw [List.getD_eq_getElem?_getD, List.getElem?_eq_getElem h2]; rfl
theorem perm_range {k : Nat} {x : List Nat} (h : x ∈ rlead k k []) : x.Perm (List.range k) := by
  obtain ⟨h1, h2, h3⟩ := all_mem.1 h
  refine (List.perm_ext_iff_of_nodup h3 List.nodup_range).2 (fun y => ⟨fun hy => List.mem_range.2 (h2 y hy), fun hy => ?_⟩)
  rcases Classical.em (y ∈ x) with hm | hm
  · exact hm
  · have := len_le_of_sub (y :: x) (List.range k) (List.nodup_cons.2 ⟨hm, h3⟩) (fun c hc => by
      rcases List.mem_cons.1 hc with rfl | hc
      · exact hy
      · exact List.mem_range.2 (h2 c hc))
    rw [List.length_range, List.length_cons] at this
    omega
/-- the cost -/
theorem cost_spec {n : Int} {a b : List Int} (h : TwoN n a b) : (∃ c, c.Perm b ∧ sumZ n a c = (bestV n a b).2) ∧ ∀ c, c.Perm b → (bestV n a b).2 ≤ sumZ n a c := by
  obtain ⟨l, hl, e, hmin⟩ := bestV_min h
  have hlen : ∀ x ∈ rlead a.length a.length [], a.length = x.length := fun x hx => (all_mem.1 hx).1.symm
  constructor
  · refine ⟨l.map (toneI b), ?_, by rw [e, prV_sumZ (hlen l hl)]⟩
    have := (perm_range hl).map (toneI b)
    rwa [h.2.2, range_tones] at this
  · intro c hc
    obtain ⟨x, hx, e2⟩ := perm_lift (toneI b) hc (List.range b.length) (range_tones b).symm
    have hxm : x ∈ rlead a.length a.length [] := all_mem.2 ⟨by rw [hx.length_eq, List.length_range, h.2.2], fun y hy => by have := List.mem_range.1 (hx.mem_iff.1 hy); rw [h.2.2]; exact this, hx.nodup_iff.2 List.nodup_range⟩
    have := hmin x hxm
    rw [e, e2, ← prV_sumZ (hlen x hxm)]
    exact this
theorem cost_le {n : Int} {a b : List Int} (h : TwoN n a b) {c : List Int} (hc : c.Perm b) : (bestV n a b).2 ≤ sumZ n a c := (cost_spec h).2 c hc
theorem cost_perm {n : Int} {a a' b : List Int} (h : TwoN n a b) (h' : TwoN n a' b) (hp : a'.Perm a) : (bestV n a' b).2 = (bestV n a b).2 := by
  have go : ∀ {a a' : List Int}, TwoN n a b → TwoN n a' b → a'.Perm a → (bestV n a' b).2 ≤ (bestV n a b).2 := fun {a a'} h h' hp => by
    obtain ⟨c, hc, e⟩ := (cost_spec h).1
    obtain ⟨c', hc', e'⟩ := sumZ_move (n := n) hp (show a.length = c.length by rw [hc.length_eq]; exact h.2.2)
    rw [← e, ← e']
    exact cost_le h' (hc'.trans hc)
  exact Int.le_antisymm (go h h' hp) (go h' h hp.symm)
theorem cost_symm {n : Int} {a b : List Int} (h : TwoN n a b) (h' : TwoN n b a) : (bestV n a b).2 = (bestV n b a).2 := by
  have hn := h.1.1
  have go : ∀ {a b : List Int}, TwoN n a b → TwoN n b a → (bestV n b a).2 ≤ (bestV n a b).2 := fun {a b} h h' => by
    obtain ⟨c, hc, e⟩ := (cost_spec h).1
    obtain ⟨c', hc', e'⟩ := sumZ_move (n := n) (a := c) (a' := b) (c := a) hc.symm (by rw [hc.length_eq]; exact h.2.2.symm)
    rw [← e, sumZ_symm hn, ← e']
    exact cost_le h' hc'
  exact Int.le_antisymm (go h' h) (go h h')
theorem cost_tri {n : Int} {a b c : List Int} (hab : TwoN n a b) (hac : TwoN n a c) (hcb : TwoN n c b) : (bestV n a b).2 ≤ (bestV n a c).2 + (bestV n c b).2 := by
  obtain ⟨c1, h1, e1⟩ := (cost_spec hac).1
  obtain ⟨b1, h2, e2⟩ := (cost_spec hcb).1
  obtain ⟨b2, h3, e3⟩ := sumZ_move (n := n) (a := c) (a' := c1) (c := b1) h1 (by rw [h2.length_eq]; exact hcb.2.2)
  have := cost_le hab (h3.trans h2)
  have := sumZ_tri hab.1.1 a c1 b2 (by rw [h1.length_eq]; exact hac.2.2) (by rw [h1.length_eq, h3.length_eq, h2.length_eq]; exact hcb.2.2)
  omega
theorem cost_nonneg {n : Int} {a b : List Int} (h : TwoN n a b) : 0 ≤ (bestV n a b).2 := by
  obtain ⟨c, _, e⟩ := (cost_spec h).1
  rw [← e]; exact sumZ_nonneg h.1.1 _ _
theorem cost_zero {n : Int} {a b : List Int} (h : TwoN n a b) : (bestV n a b).2 = 0 ↔ a.Perm b := by
  constructor
  · intro h0
    obtain ⟨c, hc, e⟩ := (cost_spec h).1
    rw [h0] at e
    have := sumZ_zero h.1.1 a c (by rw [hc.length_eq]; exact h.2.2) h.1.2.2.2.2 (fun x hx => h.2.1.2.2.2.2 x (hc.mem_iff.1 hx)) e
    rw [this]; exact hc
  · intro hp
    have := cost_le h hp
    rw [sumZ_self h.1.1] at this
    have := cost_nonneg h
    omega

end Go.Proofs.Ytfjafmgaahfhgaa.P
namespace Go.Proofs.Ytfjafmgaahfhgaa.P
open Go.RowKit Go.Proofs.YtfjafmgaahfhgaaW.PrintWords Go.Proofs.YtfjafmgaahfhgaaW.PrintLast Go.Proofs.YtfjafmgaahfhgaaW.PrintMore
attribute [local go_sem] max2_int min2_int max_two min_two max_three min_three max_four min_four   -- for this text's walks alone
set_option linter.unusedVariables false
set_option linter.unusedSimpArgs false

/-! tones in order, and what a leading of the least price is -/
theorem insR_comm (x y : Int) : ∀ l : List Int, insR x (insR y l) = insR y (insR x l)
  | [] => by
    by_cases h1 : y ≤ x <;> by_cases h2 : x ≤ y
    · have : x = y := by omega
      subst this; rfl
    · simp [insR, h1, h2]
    · simp [insR, h1, h2]
    · omega
  | z :: l => by
    by_cases h1 : z ≤ y <;> by_cases h2 : z ≤ x
    · simp [insR, h1, h2, insR_comm x y l]
    · have h3 : x ≤ y := by omega
      simp [insR, h1, h2, h3]
    · have h3 : y ≤ x := by omega
      simp [insR, h1, h2, h3]
    · by_cases h3 : y ≤ x <;> by_cases h4 : x ≤ y
      · have : x = y := by omega
        subst this; rfl
      · simp [insR, h1, h2, h3, h4]
      · simp [insR, h1, h2, h3, h4]
      · omega
theorem insR_perm (x : Int) : ∀ l : List Int, (insR x l).Perm (x :: l)
  | [] => List.Perm.refl _
  | y :: l => by
    unfold insR
    split
    · exact ((insR_perm x l).cons y).trans (List.Perm.swap x y l)
    · exact List.Perm.refl _
theorem fold_ins {a b : List Int} (h : a.Perm b) : ∀ o : List Int, a.foldl (fun o x => insR x o) o = b.foldl (fun o x => insR x o) o := by
  induction h with
  | nil => intro o; rfl
  | cons x _ ih => intro o; rw [List.foldl_cons, List.foldl_cons]; exact ih _
  | swap x y l => intro o; rw [List.foldl_cons, List.foldl_cons, List.foldl_cons, List.foldl_cons, insR_comm]
  | trans _ _ ih1 ih2 => intro o; exact (ih1 o).trans (ih2 o)
theorem fold_perm : ∀ (a o : List Int), (a.foldl (fun o x => insR x o) o).Perm (a ++ o)
  | [], o => List.Perm.refl _
  | x :: a, o => by
    rw [List.foldl_cons]
    exact (fold_perm a (insR x o)).trans (((insR_perm x o).append_left a).trans List.perm_middle)
theorem risR_perm (a : List Int) : (risR a).Perm a := by
  have := fold_perm a []
  rw [List.append_nil] at this
  exact this
theorem risR_iff {a b : List Int} : risR a = risR b ↔ a.Perm b :=
  ⟨fun h => (risR_perm a).symm.trans (h ▸ risR_perm b), fun h => fold_ins h []⟩
theorem rising_f (a : List Int) (h : a.length ≤ 1000) : sackbutref06_Rising.f a = some (risR a) := by unfold sackbutref06_Rising.f; rw [if_pos h]
theorem two_symm {n : Int} {a b : List Int} (h : TwoN n a b) : TwoN n b a := ⟨h.2.1, h.1, h.2.2.symm⟩
theorem cost_bd {n : Int} {a b : List Int} (h : TwoN n a b) : (bestV n a b).2 ≤ 1000 := by
  obtain ⟨l, _, e, hl, _⟩ := bestV_some h
  have h1 := (prI_bd h.1.1 a b (nums l) 0).2
  rw [nums_length, hl] at h1
  have h2 : n * (a.length : Int) ≤ 16 * 6 := Int.mul_le_mul h.1.2.1 (by have := h.1.2.2.2.1; omega) (by omega) (by decide)
  rw [e]; unfold prV
  omega
theorem lead_nums3 {k : Nat} {x : List Nat} (h : x ∈ rlead k k []) : LeadOf k (nums x) := by
  obtain ⟨h1, h2, h3⟩ := all_mem.1 h
  refine ⟨by rw [nums_length]; exact h1, fun y hy => ?_, ?_⟩
  · unfold nums at hy
    rw [List.mem_map] at hy
    obtain ⟨z, hz, rfl⟩ := hy
    have := h2 z hz
    show (0 : Int) ≤ (z : Int) ∧ (z : Int) < _
    omega
  · unfold nums
    exact List.Pairwise.map _ (fun a b hab => fun e => hab (Int.ofNat.inj e)) h3
theorem best_lead {n : Int} {a b : List Int} (h : TwoN n a b) : ∃ l, (bestV n a b).1 = some l ∧ LeadOf a.length (nums l) ∧ prI n a b (nums l) 0 = (bestV n a b).2 := by
  obtain ⟨l, hl, e⟩ := rfold_some (prV n a b) (rlead_ne (k := a.length) a.length [] (by simp))
  obtain ⟨h1, h2⟩ := best_ref n a b
  rw [h1] at e
  exact ⟨l, e, lead_nums3 hl, (h2 l e).symm⟩

end Go.Proofs.Ytfjafmgaahfhgaa.P
namespace Go.Proofs.Ytfjafmgaahfhgaa.P
open Go.RowKit Go.Proofs.YtfjafmgaahfhgaaW.PrintWords Go.Proofs.YtfjafmgaahfhgaaW.PrintLast Go.Proofs.YtfjafmgaahfhgaaW.PrintMore
attribute [local go_sem] max2_int min2_int max_two min_two max_three min_three max_four min_four   -- for this text's walks alone
set_option linter.unusedVariables false
set_option linter.unusedSimpArgs false

/-! images of voicings -/
def vImg (n K : Int) (t : Bool) (x : Int) : Int := ((if t = true then -x else x) + K) % n
theorem ds_img {n K x y : Int} (t : Bool) (hn : 2 ≤ n) : dsN n (vImg n K t x) (vImg n K t y) = dsN n x y := by
  have e : ∀ u v : Int, dsN n u v = max (mvN n u v) (-(mvN n u v)) := fun _ _ => rfl
  cases t with
  | false =>
    have q1 := Int.mul_ediv_add_emod (x + K) n
    have q2 := Int.mul_ediv_add_emod (y + K) n
    have i1 : vImg n K false x = (x + K) % n := rfl
    have i2 : vImg n K false y = (y + K) % n := rfl
    rw [i1, i2]
    obtain ⟨c, hc⟩ := mv_cong n x y
    obtain ⟨d, hd⟩ := mv_cong n ((x + K) % n) ((y + K) % n)
    have h1 := ds_le (n := n) (x := (x + K) % n) (y := (y + K) % n) (m := mvN n x y) (c := c + (y + K) / n - (x + K) / n) hn (by rw [Int.mul_sub, Int.mul_add]; omega)
    have h2 := ds_le (n := n) (x := x) (y := y) (m := mvN n ((x + K) % n) ((y + K) % n)) (c := d - (y + K) / n + (x + K) / n) hn (by rw [Int.mul_add, Int.mul_sub]; omega)
    rw [← e] at h1 h2
    exact Int.le_antisymm h1 h2
  | true =>
    have q1 := Int.mul_ediv_add_emod (-x + K) n
    have q2 := Int.mul_ediv_add_emod (-y + K) n
    have i1 : vImg n K true x = (-x + K) % n := rfl
    have i2 : vImg n K true y = (-y + K) % n := rfl
    rw [i1, i2]
    obtain ⟨c, hc⟩ := mv_cong n x y
    obtain ⟨d, hd⟩ := mv_cong n ((-x + K) % n) ((-y + K) % n)
    have h1 := ds_le (n := n) (x := (-x + K) % n) (y := (-y + K) % n) (m := -(mvN n x y)) (c := (-y + K) / n - (-x + K) / n - c) hn (by rw [Int.mul_sub, Int.mul_sub]; omega)
    have h2 := ds_le (n := n) (x := x) (y := y) (m := -(mvN n ((-x + K) % n) ((-y + K) % n))) (c := (-y + K) / n - (-x + K) / n - d) hn (by rw [Int.mul_sub, Int.mul_sub]; omega)
    have e1 := e x y
    have e2 := e ((-x + K) % n) ((-y + K) % n)
    omega
theorem sumZ_img {n K : Int} (t : Bool) (hn : 2 ≤ n) : ∀ a c : List Int, sumZ n (a.map (vImg n K t)) (c.map (vImg n K t)) = sumZ n a c
  | [], [] => rfl
  | [], _ :: _ => rfl
  | _ :: _, [] => rfl
  | x :: a, y :: c => by rw [List.map_cons, List.map_cons, sumZ, sumZ, ds_img t hn, sumZ_img t hn a c]
theorem voi_img {n K : Int} (t : Bool) {a : List Int} (h : VoiN n a) : VoiN n (a.map (vImg n K t)) := by
  refine ⟨h.1, h.2.1, by rw [List.length_map]; exact h.2.2.1, by rw [List.length_map]; exact h.2.2.2.1, fun x hx => ?_⟩
  rw [List.mem_map] at hx
  obtain ⟨y, _, rfl⟩ := hx
  have := h.1
  exact ⟨Int.emod_nonneg _ (by omega), Int.emod_lt_of_pos _ (by omega)⟩
theorem voi_perm {n : Int} {a b : List Int} (h : VoiN n a) (hp : b.Perm a) : VoiN n b :=
  ⟨h.1, h.2.1, by rw [hp.length_eq]; exact h.2.2.1, by rw [hp.length_eq]; exact h.2.2.2.1, fun x hx => h.2.2.2.2 x (hp.mem_iff.1 hx)⟩
theorem two_perm {n : Int} {a b a' b' : List Int} (h : TwoN n a b) (ha : a'.Perm a) (hb : b'.Perm b) : TwoN n a' b' := ⟨voi_perm h.1 ha, voi_perm h.2.1 hb, by rw [ha.length_eq, hb.length_eq]; exact h.2.2⟩
theorem two_img {n K : Int} (t : Bool) {a b : List Int} (h : TwoN n a b) : TwoN n (a.map (vImg n K t)) (b.map (vImg n K t)) := ⟨voi_img t h.1, voi_img t h.2.1, by rw [List.length_map, List.length_map]; exact h.2.2⟩
theorem cost_img {n K : Int} (t : Bool) {a b : List Int} (h : TwoN n a b) : (bestV n (a.map (vImg n K t)) (b.map (vImg n K t))).2 = (bestV n a b).2 := by
  have hi := two_img (K := K) t h
  have hn := h.1.1
  refine Int.le_antisymm ?_ ?_
  · obtain ⟨c, hc, e⟩ := (cost_spec h).1
    rw [← e, ← sumZ_img (K := K) t hn]
    exact cost_le hi (hc.map _)
  · obtain ⟨c, hc, e⟩ := (cost_spec hi).1
    obtain ⟨x, hx, e2⟩ := perm_lift (vImg n K t) hc b rfl
    rw [← e, e2, sumZ_img t hn]
    exact cost_le h hx
theorem cost_both {n : Int} {a b a' b' : List Int} (h : TwoN n a b) (ha : a'.Perm a) (hb : b'.Perm b) : (bestV n a' b').2 = (bestV n a b).2 := by
  have h1 := two_perm h ha (List.Perm.refl b)
  have h2 := two_perm h ha hb
  rw [cost_symm h2 (two_symm h2), cost_perm (two_symm h1) (two_symm h2) hb, cost_symm (two_symm h1) h1, cost_perm h h1 ha]
theorem Image_loop {n K : Int} (t : Bool) (hn : 2 ≤ n) (hn2 : n ≤ 16) (hK : 0 ≤ K ∧ K < n) (l : List Int) (hl : l.length ≤ 6) (ht : ∀ x ∈ l, 0 ≤ x ∧ x < n) : ∀ (xs pre : List Int), l = pre ++ xs →
    Ev (fun q => sackbutref06_Image.l0 q n K t (pre.map (vImg n K t)) l (l.length : Int) (pre.length : Int)) (risR (l.map (vImg n K t))) := by
  have hb : l.length < 9223372036854775807 := by omega
  intro xs
  induction xs with
  | nil =>
    intro pre h0
    refine Ev.succ ?_
    simp only [sackbutref06_Image.l0, if_neg (mid_end h0)]
    have e : pre = l := by rw [h0, List.append_nil]
    rw [e]
    exact Ev.bind_some (rising_f _ (by rw [List.length_map]; omega)) (Ev.some _)
  | cons x xs ih =>
    intro pre h0
    have hx := ht x (by rw [h0]; simp)
    have hp : (pre.map (vImg n K t)).length < 17592186044416 := by rw [List.length_map]; have := congrArg List.length h0; simp at this; omega
    have hi := ih (pre ++ [x]) (mid_mv h0)
    rw [List.map_append] at hi
    refine Ev.succ ?_
    simp only [sackbutref06_Image.l0, if_pos (mid_lt h0), if_pos (show (0 : Int) ≤ (pre.length : Int) by omega), mid_rd h0, mid_next h0 hb, if_pos hp]
    have w1 : wrap64 (-x) = -x := wrap_id (by omega) (by omega)
    have w2 : wrap64 (-x + K) = -x + K := wrap_id (by omega) (by omega)
    have w3 : wrap64 (x + K) = x + K := wrap_id (by omega) (by omega)
    cases t with
    | true =>
      simp only [if_true, w1, w2]
      exact Ev.bind_some (refMod_f hn hn2) hi
    | false =>
      simp only [Bool.false_eq_true, if_false, w3]
      exact Ev.bind_some (refMod_f hn hn2) hi
theorem Image_ev {n K : Int} (t : Bool) {l : List Int} (h : VoiN n l) (hK : 0 ≤ K ∧ K < n) : Ev (fun q => sackbutref06_Image.f q n l K t) (risR (l.map (vImg n K t))) := by
  unfold sackbutref06_Image.f
  exact Image_loop t h.1 h.2.1 hK l h.2.2.2.1 h.2.2.2.2 l [] rfl
theorem wrapU (n : Int) : IntKind.u64.wrap n = n % 18446744073709551616 := by
  simp only [IntKind.wrap, IntKind.bits, IntKind.signed]
  simp

end Go.Proofs.Ytfjafmgaahfhgaa.P
namespace Go.Proofs.Ytfjafmgaahfhgaa.P
open Go.RowKit Go.Proofs.YtfjafmgaahfhgaaW.PrintWords Go.Proofs.YtfjafmgaahfhgaaW.PrintLast Go.Proofs.YtfjafmgaahfhgaaW.PrintMore
attribute [local go_sem] max2_int min2_int max_two min_two max_three min_three max_four min_four   -- for this text's walks alone
set_option linter.unusedVariables false
set_option linter.unusedSimpArgs false

/-! the cost is that of a leading that keeps the order around the circle -/
theorem mul_self_nonneg9 (a : Int) : 0 ≤ a * a := by
  rcases Int.le_total 0 a with h | h
  · exact Int.mul_nonneg h h
  · exact Int.mul_nonneg_of_nonpos_of_nonpos h h
theorem nat_least {α : Type} (P : α → Prop) (f : α → Nat) (h : ∃ z, P z) : ∃ z, P z ∧ ∀ w, P w → f z ≤ f w := by
  have key : ∀ (m : Nat) (z : α), P z → f z ≤ m → ∃ z', P z' ∧ ∀ w, P w → f z' ≤ f w := by
    intro m
    induction m with
    | zero => intro z hz h0; exact ⟨z, hz, fun w _ => by omega⟩
    | succ m ih =>
      intro z hz hm
      by_cases hw : ∃ w, P w ∧ f w < f z
      · obtain ⟨w, hw, hlt⟩ := hw
        exact ih w hw (by omega)
      · exact ⟨z, hz, fun w h2 => Nat.le_of_not_lt (fun hlt => hw ⟨w, h2, hlt⟩)⟩
  obtain ⟨z, hz⟩ := h
  exact key (f z) z hz (Nat.le_refl _)
def sumG (f : Int → Int → Int) : List Int → List Int → Int
  | x :: a, y :: c => f x y + sumG f a c
  | _, _ => 0
def lnA (x z : Int) : Int := max (z - x) (x - z)
def lnS (x z : Int) : Int := (z - x) * (z - x)
theorem sumG_set (f : Int → Int → Int) : ∀ (x z : List Int) (i : Nat) (v : Int) (hx : i < x.length) (hz : i < z.length), sumG f x (z.set i v) = sumG f x z - f x[i] z[i] + f x[i] v
  | [], _, _, _, h, _ => by simp at h
  | _ :: _, [], _, _, _, h => by simp at h
  | x :: a, z :: c, 0, v, _, _ => by simp only [List.set_cons_zero, sumG, List.getElem_cons_zero]; omega
  | x :: a, z :: c, i + 1, v, hx, hz => by
    simp only [List.set_cons_succ, sumG, List.getElem_cons_succ]
    rw [sumG_set f a c i v (by simpa using hx) (by simpa using hz)]
    omega
theorem sumG_nonneg {f : Int → Int → Int} (hf : ∀ x y, 0 ≤ f x y) : ∀ x z : List Int, 0 ≤ sumG f x z
  | [], _ => by cases ‹List Int› <;> exact Int.le_refl _
  | _ :: _, [] => Int.le_refl _
  | x :: a, z :: c => by
    have := sumG_nonneg hf a c
    have := hf x z
    unfold sumG; omega
theorem lift_num {n xi xj zi zj : Int} (hi : 0 ≤ xi ∧ xi < n) (hj : 0 ≤ xj ∧ xj < n) (h : n < zj - zi) :
    lnA xi (zj - n) + lnA xj (zi + n) ≤ lnA xi zi + lnA xj zj ∧ lnS xi (zj - n) + lnS xj (zi + n) < lnS xi zi + lnS xj zj := by
  obtain ⟨u, hu⟩ : ∃ u, u = zi - xi := ⟨_, rfl⟩
  obtain ⟨v, hv⟩ : ∃ v, v = zj - xj := ⟨_, rfl⟩
  obtain ⟨s, hs⟩ : ∃ s, s = n - (xj - xi) := ⟨_, rfl⟩
  unfold lnA lnS
  refine ⟨by omega, ?_⟩
  rw [show zj - n - xi = v - s by omega, show zi + n - xj = u + s by omega, ← hu, ← hv]
  have hpos : 0 < s * (v - u - s) := Int.mul_pos (by omega) (by omega)
  have x1 : (u + s) * (u + s) = u * u + 2 * (s * u) + s * s := by rw [Int.add_mul, Int.mul_add, Int.mul_add, Int.mul_comm u s]; omega
  have x2 : (v - s) * (v - s) = v * v - 2 * (s * v) + s * s := by rw [Int.sub_mul, Int.mul_sub, Int.mul_sub, Int.mul_comm v s]; omega
  have x3 : s * (v - u - s) = s * v - s * u - s * s := by rw [Int.mul_sub, Int.mul_sub]
  omega
/-- a least lift is not wider than the circle -/
theorem lift_least {n : Int} (hn : 2 ≤ n) {x y : List Int} (hx : ∀ v ∈ x, 0 ≤ v ∧ v < n) (hl : x.length = y.length) (z0 : List Int) (h0 : (z0.map (· % n)).Perm y) :
    ∃ z, (z.map (· % n)).Perm y ∧ sumG lnA x z ≤ sumG lnA x z0 ∧ ∀ u ∈ z, ∀ v ∈ z, v - u ≤ n := by
  obtain ⟨z1, p1, m1⟩ := nat_least (fun z => (z.map (· % n)).Perm y) (fun z => (sumG lnA x z).toNat) ⟨z0, h0⟩
  obtain ⟨z, ⟨p2, q2⟩, m2⟩ := nat_least (fun z => (z.map (· % n)).Perm y ∧ sumG lnA x z ≤ sumG lnA x z1) (fun z => (sumG lnS x z).toNat) ⟨z1, p1, Int.le_refl _⟩
  have hA : ∀ z, 0 ≤ sumG lnA x z := sumG_nonneg (fun x y => by unfold lnA; omega) x
  have hS : ∀ z, 0 ≤ sumG lnS x z := sumG_nonneg (fun x y => by unfold lnS; exact mul_self_nonneg9 _) x
  refine ⟨z, p2, by have := m1 z0 h0; have := hA z0; have := hA z1; omega, fun u hu v hv => Int.not_lt.1 (fun hlt => ?_)⟩
  obtain ⟨i, hi, rfl⟩ := List.mem_iff_getElem.1 hu
  obtain ⟨j, hj, rfl⟩ := List.mem_iff_getElem.1 hv
  have hzl : z.length = x.length := by have := p2.length_eq; rw [List.length_map] at this; omega
  have hne : i ≠ j := by rintro rfl; omega
  obtain ⟨s1, s2⟩ := lift_num (hx _ (List.getElem_mem (show i < x.length by omega))) (hx _ (List.getElem_mem (show j < x.length by omega))) hlt
  have eA : ∀ f : Int → Int → Int, sumG f x ((z.set i (z[j] - n)).set j (z[i] + n)) = sumG f x z - f x[i] z[i] - f x[j] z[j] + f x[i] (z[j] - n) + f x[j] (z[i] + n) := fun f => by
    rw [sumG_set f x _ j _ (by omega) (by simpa using hj), sumG_set f x z i _ (by omega) hi, List.getElem_set_ne hne]
    omega
  have hp : (((z.set i (z[j] - n)).set j (z[i] + n)).map (· % n)).Perm y := by
    rw [List.map_set, List.map_set]
    simp only [Int.sub_emod_right, Int.add_emod_right]
    have := @List.set_set_perm _ (z.map (· % n)) i j (by simpa using hi) (by simpa using hj)
    simp only [List.getElem_map] at this
    exact this.trans p2
  have h3 := m2 _ ⟨hp, by rw [eA]; omega⟩
  rw [eA] at h3
  have := hS z
  have h5 := hS ((z.set i (z[j] - n)).set j (z[i] + n))
  rw [eA] at h5
  omega
/-! in order -/
def srtR : List Int → List Int
  | [] => []
  | x :: l => insR x (srtR l)
theorem srtR_perm : ∀ l, (srtR l).Perm l
  | [] => List.Perm.refl _
  | x :: l => (insR_perm x _).trans ((srtR_perm l).cons x)
theorem insR_sorted (x : Int) : ∀ l : List Int, l.Pairwise (· ≤ ·) → (insR x l).Pairwise (· ≤ ·)
  | [], _ => List.pairwise_singleton _ _
  | y :: l, h => by
    rw [List.pairwise_cons] at h
    unfold insR
    split
    · rename_i hy
      refine List.pairwise_cons.2 ⟨fun z hz => ?_, insR_sorted x l h.2⟩
      rcases List.mem_cons.1 ((insR_perm x l).mem_iff.1 hz) with rfl | hz
      · exact hy
      · exact h.1 z hz
    · rename_i hy
      refine List.pairwise_cons.2 ⟨fun z hz => ?_, List.pairwise_cons.2 h⟩
      rcases List.mem_cons.1 hz with rfl | hz
      · omega
      · have := h.1 z hz; omega
theorem srtR_sorted : ∀ l, (srtR l).Pairwise (· ≤ ·)
  | [] => List.Pairwise.nil
  | x :: l => insR_sorted x _ (srtR_sorted l)
theorem fold_sorted : ∀ (l o : List Int), (o ++ l).Pairwise (· ≤ ·) → l.foldl (fun o x => insR x o) o = o ++ l
  | [], o, _ => by simp
  | x :: l, o, h => by
    have e : insR x o = o ++ [x] := by
      have h2 := (List.pairwise_append.1 h).2.2
      have : ∀ o : List Int, (∀ y ∈ o, y ≤ x) → insR x o = o ++ [x] := by
        intro o
        induction o with
        | nil => intro _; rfl
        | cons y o ih =>
          intro h
          unfold insR
          rw [if_pos (h y (by simp)), ih (fun z hz => h z (by simp [hz]))]; rfl
      exact this o (fun y hy => h2 y hy x (by simp))
    rw [List.foldl_cons, e, fold_sorted l (o ++ [x]) (by simpa using h)]
    simp
theorem risR_sorted {l : List Int} (h : l.Pairwise (· ≤ ·)) : risR l = l := by
  have := fold_sorted l [] (by simpa using h)
  rw [List.nil_append] at this
  exact this
theorem risR_in_order (l : List Int) : (risR l).Pairwise (· ≤ ·) := by
  have : risR l = srtR l := by
    have h1 : risR l = risR (srtR l) := risR_iff.2 (srtR_perm l).symm
    rw [h1, risR_sorted (srtR_sorted l)]
  rw [this]; exact srtR_sorted l
theorem line_ins : ∀ (x s : List Int) (x0 v : Int), (x0 :: x).Pairwise (· ≤ ·) → x.length = s.length → sumG lnA (x0 :: x) (insR v s) ≤ lnA x0 v + sumG lnA x s
  | [], [], _, _, _, _ => Int.le_refl _
  | x1 :: x, s0 :: s, x0, v, hx, hl => by
    unfold insR
    split
    · rename_i hv
      have ih := line_ins x s x1 v (List.pairwise_cons.1 hx).2 (by simpa using hl)
      have h01 := (List.pairwise_cons.1 hx).1 x1 (by simp)
      have h2 : lnA x0 s0 + lnA x1 v ≤ lnA x0 v + lnA x1 s0 := by unfold lnA; omega
      have e1 : sumG lnA (x0 :: x1 :: x) (s0 :: insR v s) = lnA x0 s0 + sumG lnA (x1 :: x) (insR v s) := rfl
      have e2 : sumG lnA (x1 :: x) (s0 :: s) = lnA x1 s0 + sumG lnA x s := rfl
      omega
    · exact Int.le_refl _
theorem line_sort : ∀ (x z : List Int), x.Pairwise (· ≤ ·) → x.length = z.length → sumG lnA x (srtR z) ≤ sumG lnA x z
  | [], [], _, _ => Int.le_refl _
  | x0 :: x, v :: z, hx, hl => by
    have ih := line_sort x z (List.pairwise_cons.1 hx).2 (by simpa using hl)
    have h1 := line_ins x (srtR z) x0 v hx (by rw [(srtR_perm z).length_eq]; simpa using hl)
    have e : sumG lnA (x0 :: x) (v :: z) = lnA x0 v + sumG lnA x z := rfl
    have e2 : srtR (v :: z) = insR v (srtR z) := rfl
    rw [e2]; omega
theorem cut_at (T : Int) : ∀ z : List Int, z.Pairwise (· ≤ ·) → ∃ A B, z = A ++ B ∧ (∀ a ∈ A, a < T) ∧ ∀ b ∈ B, T ≤ b
  | [], _ => ⟨[], [], rfl, fun a h => (by cases h), fun a h => (by cases h)⟩
  | v :: z, h => by
    by_cases hv : v < T
    · obtain ⟨A, B, e, h1, h2⟩ := cut_at T z (List.pairwise_cons.1 h).2
      refine ⟨v :: A, B, by rw [e]; rfl, fun a ha => ?_, h2⟩
      rcases List.mem_cons.1 ha with rfl | ha
      · exact hv
      · exact h1 a ha
    · refine ⟨[], v :: z, rfl, fun a h => (by cases h), fun b hb => ?_⟩
      rcases List.mem_cons.1 hb with rfl | hb
      · omega
      · have := (List.pairwise_cons.1 h).1 b hb; omega
/-- tones in order that are not wider than the circle are the other tones, moved around -/
theorem lift_rot {n : Int} (hn : 2 ≤ n) {y z : List Int} (hy : y.Pairwise (· ≤ ·)) (hz : z.Pairwise (· ≤ ·)) (h1 : 1 ≤ z.length) (hp : (z.map (· % n)).Perm y) (hw : ∀ u ∈ z, ∀ v ∈ z, v - u ≤ n) : ∃ r, r < y.length ∧ z.map (· % n) = y.drop r ++ y.take r := by
  cases z with
  | nil => simp at h1
  | cons z0 z =>
  obtain ⟨q, hq⟩ : ∃ q, q = z0 / n := ⟨_, rfl⟩
  have d1 := Int.mul_ediv_add_emod z0 n
  have d2 := Int.emod_nonneg z0 (show n ≠ 0 by omega)
  have d3 := Int.emod_lt_of_pos z0 (show 0 < n by omega)
  rw [← hq] at d1
  have dT : n * (q + 1) = n * q + n := by rw [Int.mul_add, Int.mul_one]
  obtain ⟨A, B, e, hA, hB⟩ := cut_at (n * (q + 1)) (z0 :: z) hz
  have hlo : ∀ a ∈ z0 :: z, z0 ≤ a := fun a ha => by
    rcases List.mem_cons.1 ha with rfl | ha
    · exact Int.le_refl _
    · exact (List.pairwise_cons.1 hz).1 a ha
  have hhi : ∀ a ∈ z0 :: z, a ≤ z0 + n := fun a ha => by have := hw z0 (by simp) a ha; omega
  have mA : ∀ a ∈ A, a % n = a - n * q := fun a ha => by
    have := hA a ha
    have := hlo a (by rw [e]; simp [ha])
    rw [show a = (a - n * q) + n * q by omega, Int.add_mul_emod_self_left, Int.emod_eq_of_lt (by omega) (by omega)]; omega
  have mB : ∀ a ∈ B, a % n = a - n * (q + 1) := fun a ha => by
    have := hB a ha
    have := hhi a (by rw [e]; simp [ha])
    rw [show a = (a - n * (q + 1)) + n * (q + 1) by omega, Int.add_mul_emod_self_left, Int.emod_eq_of_lt (by omega) (by omega)]; omega
  rw [e] at hz hp
  obtain ⟨sA, sB, sAB⟩ := List.pairwise_append.1 hz
  have hne : A ≠ [] := by
    rintro rfl
    have := hB z0 (by rw [List.nil_append] at e; rw [← e]; simp)
    omega
  have hS : (B.map (· % n) ++ A.map (· % n)).Pairwise (· ≤ ·) := by
    refine List.pairwise_append.2 ⟨?_, ?_, ?_⟩
    · refine List.pairwise_map.2 (sB.imp_of_mem (fun {a b} ha hb hab => ?_))
      rw [mB a ha, mB b hb]; omega
    · refine List.pairwise_map.2 (sA.imp_of_mem (fun {a b} ha hb hab => ?_))
      rw [mA a ha, mA b hb]; omega
    · intro u hu v hv
      obtain ⟨a, ha, rfl⟩ := List.mem_map.1 hu
      obtain ⟨b, hb, rfl⟩ := List.mem_map.1 hv
      have h3 := mB a ha
      have h4 := mA b hb
      have h5 := hhi a (by rw [e]; simp [ha])
      have h6 := hlo b (by rw [e]; simp [hb])
      simp only [h3, h4]
      omega
  have hy2 : B.map (· % n) ++ A.map (· % n) = y := by
    rw [← risR_sorted hS, ← risR_sorted hy]
    refine risR_iff.2 (List.perm_append_comm.trans ?_)
    rwa [List.map_append] at hp
  refine ⟨B.length, ?_, ?_⟩
  · rw [← hy2, List.length_append, List.length_map, List.length_map]
    have := List.length_pos_iff.2 hne
    omega
  · rw [e, List.map_append, ← hy2]
    have hlb : (B.map (· % n)).length = B.length := List.length_map _
    rw [← hlb, List.drop_left, List.take_left]

theorem lift_start {n : Int} : ∀ (x c : List Int), x.length = c.length → (∀ v ∈ c, 0 ≤ v ∧ v < n) → ∃ z : List Int, z.map (· % n) = c ∧ sumG lnA x z = sumZ n x c
  | [], [], _, _ => ⟨[], rfl, rfl⟩
  | u :: x, v :: c, hl, hc => by
    obtain ⟨z, e1, e2⟩ := lift_start x c (by simpa using hl) (fun w hw => hc w (by simp [hw]))
    obtain ⟨k, hk⟩ := mv_cong n u v
    have hv := hc v (by simp)
    refine ⟨(u + mvN n u v) :: z, ?_, ?_⟩
    · rw [List.map_cons, e1, show u + mvN n u v = v + n * k by omega, Int.add_mul_emod_self_left, Int.emod_eq_of_lt hv.1 hv.2]
    · unfold sumG sumZ
      have e3 : dsN n u v = max (mvN n u v) (-(mvN n u v)) := rfl
      rw [e2, e3]
      unfold lnA
      omega
theorem lift_end {n : Int} (hn : 2 ≤ n) : ∀ (x z : List Int), x.length = z.length → sumZ n x (z.map (· % n)) ≤ sumG lnA x z
  | [], [], _ => Int.le_refl _
  | u :: x, v :: z, hl => by
    have ih := lift_end hn x z (by simpa using hl)
    have d := Int.mul_ediv_add_emod v n
    have h := ds_le (n := n) (x := u) (y := v % n) (m := v - u) (c := v / n) hn (by omega)
    rw [List.map_cons]
    show dsN n u (v % n) + sumZ n x (z.map (· % n)) ≤ lnA u v + sumG lnA x z
    have e : lnA u v = max (v - u) (u - v) := rfl
    omega
theorem rot_cost {n : Int} {x y : List Int} (h : TwoN n x y) (hx : x.Pairwise (· ≤ ·)) (hy : y.Pairwise (· ≤ ·)) : ∃ r, r < y.length ∧ sumZ n x (y.drop r ++ y.take r) ≤ (bestV n x y).2 := by
  have hn := h.1.1
  obtain ⟨c, hc, e⟩ := (cost_spec h).1
  obtain ⟨z0, p0, e0⟩ := lift_start x c (by rw [hc.length_eq]; exact h.2.2) (fun v hv => h.2.1.2.2.2.2 v (hc.mem_iff.1 hv))
  obtain ⟨z, p1, l1, w1⟩ := lift_least hn (x := x) (y := y) h.1.2.2.2.2 h.2.2 z0 (by rw [p0]; exact hc)
  have hzl : x.length = z.length := by have := p1.length_eq; rw [List.length_map] at this; rw [this]; exact h.2.2
  have ps := srtR_perm z
  obtain ⟨r, hr, er⟩ := lift_rot hn hy (srtR_sorted z) (by rw [ps.length_eq, ← hzl]; exact h.1.2.2.1) ((ps.map _).trans p1) (fun u hu v hv => w1 u (ps.mem_iff.1 hu) v (ps.mem_iff.1 hv))
  refine ⟨r, hr, ?_⟩
  have h1 := lift_end hn x (srtR z) (by rw [ps.length_eq]; exact hzl)
  have h2 := line_sort x z hx hzl
  rw [er] at h1
  omega
theorem rot_ge {n : Int} {x y : List Int} (h : TwoN n x y) (r : Nat) : (bestV n x y).2 ≤ sumZ n x (y.drop r ++ y.take r) :=
  cost_le h (by have h1 := List.perm_append_comm (l₁ := y.drop r) (l₂ := y.take r); rwa [List.take_append_drop] at h1)
theorem rotN_eq {k r : Nat} (hr : r < k) : (List.range k).map (fun i => (i + r) % k) = (List.range k).drop r ++ (List.range k).take r := by
  refine List.ext_getElem (by simp; omega) (fun i h1 h2 => ?_)
  have hi : i < k := by simpa using h1
  rw [List.getElem_map, List.getElem_range, List.getElem_append]
  split
  · rename_i hlt
    rw [List.length_drop, List.length_range] at hlt
    rw [List.getElem_drop, List.getElem_range, Nat.mod_eq_of_lt (by omega)]; omega
  · rename_i hge
    simp only [List.length_drop, List.length_range] at hge ⊢
    rw [List.getElem_take, List.getElem_range, Nat.mod_eq_sub_mod (by omega), Nat.mod_eq_of_lt (by omega)]; omega
theorem rotN_mem {k r : Nat} (hr : r < k) : (List.range k).map (fun i => (i + r) % k) ∈ rlead k k [] := by
  have hp : ((List.range k).map (fun i => (i + r) % k)).Perm (List.range k) := by
    rw [rotN_eq hr]
    have h1 := List.perm_append_comm (l₁ := (List.range k).drop r) (l₂ := (List.range k).take r)
    rwa [List.take_append_drop] at h1
  exact all_mem.2 ⟨by simp, fun y hy => List.mem_range.1 (hp.mem_iff.1 hy), hp.nodup_iff.2 List.nodup_range⟩
theorem rotN_price {n : Int} {x y : List Int} (h : TwoN n x y) {r : Nat} (hr : r < x.length) : prI n x y (nums ((List.range x.length).map (fun i => (i + r) % x.length))) 0 = sumZ n x (y.drop r ++ y.take r) := by
  have e := prV_sumZ (n := n) (a := x) (b := y) (x := (List.range x.length).map (fun i => (i + r) % x.length)) (by simp)
  unfold prV at e
  rw [e, rotN_eq hr, List.map_append, List.map_drop, List.map_take, h.2.2, range_tones]

end Go.Proofs.Ytfjafmgaahfhgaa.P
namespace Go.Proofs.Ytfjafmgaahfhgaa.P
open Go.RowKit Go.Proofs.YtfjafmgaahfhgaaW.PrintWords Go.Proofs.YtfjafmgaahfhgaaW.PrintLast Go.Proofs.YtfjafmgaahfhgaaW.PrintMore
attribute [local go_sem] max2_int min2_int max_two min_two max_three min_three max_four min_four   -- for this text's walks alone
set_option linter.unusedVariables false
set_option linter.unusedSimpArgs false

/-! what is nearest -/
theorem risL_perm (v : List Int) : (risL v).Perm v := List.mergeSort_perm v _
theorem risL_sorted (v : List Int) : (risL v).Pairwise (· ≤ ·) := by
  have := List.pairwise_mergeSort (le := fun x y : Int => decide (x ≤ y)) (fun a b c h1 h2 => by simp at *; omega) (fun a b => by simp; omega) v
  exact this.imp (fun h => of_decide_eq_true h)
theorem sorted_eq {a b : List Int} (ha : a.Pairwise (· ≤ ·)) (hb : b.Pairwise (· ≤ ·)) (h : a.Perm b) : a = b :=
  List.Perm.eq_of_pairwise (le := fun x y : Int => x ≤ y) (fun a b _ _ h1 h2 => by omega) ha hb h
theorem risL_risR {a b : List Int} (h : a.Perm b) : risL a = risR b := sorted_eq (risL_sorted a) (risR_in_order b) ((risL_perm a).trans (h.trans (risR_perm b).symm))
/-- what the fold keeps: one of the images' tones with the least cost -/
theorem near_fold {n : Int} {a : List Int} : ∀ (L M : List (List Int)) (st : Option (List Int × Int)), (∀ w d, st = some (w, d) → (∃ v ∈ M, w = risL v ∧ d = (bestV n a v).2) ∧ ∀ v ∈ M, d ≤ (bestV n a v).2) → (st = none → M = []) →
    ∀ w d, L.foldl (fun st v => seeS st (risL v) (bestV n a v).2) st = some (w, d) → (∃ v ∈ M ++ L, w = risL v ∧ d = (bestV n a v).2) ∧ ∀ v ∈ M ++ L, d ≤ (bestV n a v).2
  | [], M, st, h, _, w, d, e => by rw [List.append_nil]; exact h w d e
  | v :: L, M, st, h, h0, w, d, e => by
    rw [List.foldl_cons] at e
    have key : ∀ w d, seeS st (risL v) (bestV n a v).2 = some (w, d) → (∃ u ∈ M ++ [v], w = risL u ∧ d = (bestV n a u).2) ∧ ∀ u ∈ M ++ [v], d ≤ (bestV n a u).2 := by
      intro w d e
      cases st with
      | none =>
        have := h0 rfl
        subst this
        simp only [seeS, Option.some.injEq, Prod.mk.injEq] at e
        obtain ⟨rfl, rfl⟩ := e
        exact ⟨⟨v, by simp, rfl, rfl⟩, fun u hu => by simp at hu; subst hu; exact Int.le_refl _⟩
      | some p =>
        obtain ⟨w0, d0⟩ := p
        obtain ⟨⟨u0, hu0, e1, e2⟩, hmin⟩ := h w0 d0 rfl
        simp only [seeS] at e
        split at e
        · rename_i hc
          simp only [Option.some.injEq, Prod.mk.injEq] at e
          obtain ⟨rfl, rfl⟩ := e
          refine ⟨⟨v, by simp, rfl, rfl⟩, fun u hu => ?_⟩
          rcases List.mem_append.1 hu with h | h
          · have := hmin u h; omega
          · rw [List.mem_singleton] at h; subst h; exact Int.le_refl _
        · rename_i hc
          simp only [Option.some.injEq, Prod.mk.injEq] at e
          obtain ⟨rfl, rfl⟩ := e
          refine ⟨⟨u0, by simp [hu0], e1, e2⟩, fun u hu => ?_⟩
          rcases List.mem_append.1 hu with h | h
          · exact hmin u h
          · rw [List.mem_singleton] at h; subst h
            rw [not_or] at hc
            omega
    have := near_fold L (M ++ [v]) (seeS st (risL v) (bestV n a v).2) key (fun e2 => by obtain ⟨p, hp⟩ := seeS_some st (risL v) (bestV n a v).2; rw [hp] at e2; cases e2) w d e
    simpa using this
theorem img_mem {n : Nat} {b : List Int} {q k : Nat} (hq : q < 2) (hk : k < n) : imgV n b q k ∈ imgsTo n b 2 0 := by
  unfold imgsTo
  refine List.mem_append.2 (.inl (List.mem_flatMap.2 ⟨q, List.mem_range.2 hq, List.mem_map.2 ⟨k, List.mem_range.2 hk, rfl⟩⟩))
theorem mem_img {n : Nat} {b v : List Int} (h : v ∈ imgsTo n b 2 0) : ∃ q k, q < 2 ∧ k < n ∧ v = imgV n b q k := by
  unfold imgsTo at h
  rcases List.mem_append.1 h with h | h
  · obtain ⟨q, hq, h⟩ := List.mem_flatMap.1 h
    obtain ⟨k, hk, rfl⟩ := List.mem_map.1 h
    exact ⟨q, k, List.mem_range.1 hq, List.mem_range.1 hk, rfl⟩
  · simp at h
theorem near_spec {n : Nat} {a b : List Int} (h : TwoN n a b) : ∃ q k d, q < 2 ∧ k < n ∧ nearV n a b = some (risL (imgV n b q k), d) ∧ d = (bestV n a (imgV n b q k)).2 ∧ ∀ p j, p < 2 → j < n → d ≤ (bestV n a (imgV n b p j)).2 := by
  have hn := h.1.1
  obtain ⟨⟨w, d⟩, hp⟩ := nearF_some (n := (n : Int)) (a := a) (imgsTo n b 2 0) none (.inl (imgs_ne (by omega) b))
  obtain ⟨⟨v, hv, e1, e2⟩, hmin⟩ := near_fold (imgsTo n b 2 0) [] none (fun w d e => by cases e) (fun _ => rfl) w d hp
  rw [List.nil_append] at hv hmin
  obtain ⟨q, k, hq, hk, rfl⟩ := mem_img hv
  refine ⟨q, k, d, hq, hk, ?_, e2, fun p j hp hj => hmin _ (img_mem hp hj)⟩
  unfold nearV
  rw [Int.toNat_natCast, ← e1]
  exact hp
theorem img_vImg (n : Nat) (b : List Int) (q k : Nat) (hq : q < 2) : imgV n b q k = b.map (vImg n k (decide (q = 1))) := by
  unfold imgV
  refine List.map_congr_left (fun x _ => ?_)
  unfold vImg
  have : q = 0 ∨ q = 1 := by omega
  rcases this with rfl | rfl
  · simp [Int.add_comm]
  · simp [Int.add_comm]
/-- an image's image is the voicing again -/
theorem img_back {n : Nat} {a : List Int} (h : VoiN n a) (t : Bool) {K : Int} (hK : 0 ≤ K ∧ K < n) : ∃ q k, q < 2 ∧ k < n ∧ imgV n (a.map (vImg n K t)) q k = a := by
  have hn := h.1
  cases t with
  | false =>
    refine ⟨0, ((n : Int) - K).toNat % n, by omega, Nat.mod_lt _ (by omega), ?_⟩
    rw [img_vImg _ _ _ _ (by omega), List.map_map]
    refine (List.map_congr_left (g := id) (fun x hx => ?_)).trans (List.map_id a)
    have hxr := h.2.2.2.2 x hx
    simp only [Function.comp, vImg, id]
    simp only [Bool.false_eq_true, if_false, decide_eq_true_eq, show ¬ (0 : Nat) = 1 by decide]
    rw [Int.natCast_emod, Int.toNat_of_nonneg (by omega), Int.emod_add_emod, Int.add_emod_emod]
    rw [show x + K + ((n : Int) - K) = x + n by omega, Int.add_emod_right, Int.emod_eq_of_lt hxr.1 hxr.2]
  | true =>
    refine ⟨1, K.toNat, by omega, by omega, ?_⟩
    rw [img_vImg _ _ _ _ (by omega), List.map_map]
    refine (List.map_congr_left (g := id) (fun x hx => ?_)).trans (List.map_id a)
    have hxr := h.2.2.2.2 x hx
    simp only [Function.comp, vImg, id, decide_true, if_true]
    rw [Int.toNat_of_nonneg hK.1]
    have e : (-((-x + K) % (n : Int)) + K) % (n : Int) = x % (n : Int) := by
      rw [show -((-x + K) % (n : Int)) + K = K - (-x + K) % (n : Int) by omega, Int.sub_emod, Int.emod_emod, ← Int.sub_emod]
      congr 1; omega
    rw [e, Int.emod_eq_of_lt hxr.1 hxr.2]

end Go.Proofs.Ytfjafmgaahfhgaa.P
namespace Go.Proofs.Ytfjafmgaahfhgaa.P
open Go.RowKit Go.Proofs.YtfjafmgaahfhgaaW.PrintWords Go.Proofs.YtfjafmgaahfhgaaW.PrintLast Go.Proofs.YtfjafmgaahfhgaaW.PrintMore
attribute [local go_sem] max2_int min2_int max_two min_two max_three min_three max_four min_four   -- for this text's walks alone
set_option linter.unusedVariables false
set_option linter.unusedSimpArgs false

theorem less_int_f (x y : Int) : cmp_Less_int.f x y = some (decide (x < y)) := by
  unfold cmp_Less_int.f cmp_isNaN_int.f
  simp
theorem IsSorted_down (l : List Int) (hb : l.length < 9223372036854775807) (hs : l.Pairwise (· ≤ ·)) : ∀ i, i < l.length → Ev (fun k => slices_IsSorted_int_int.l0 k l (i : Int)) true
  | 0, _ => by
    refine Ev.succ ?_
    simp only [slices_IsSorted_int_int.l0, if_neg (show ¬ ((0 : Nat) : Int) > 0 by omega)]
    exact Ev.some _
  | i + 1, h => by
    have ih := IsSorted_down l hb hs i (by omega)
    have w1 : wrap64 (((i + 1 : Nat) : Int) - 1) = (i : Int) := by rw [wrap_id (by omega) (by omega)]; omega
    have hle : ¬ rd l ((i + 1 : Nat) : Int) < rd l (i : Int) := by
      rw [rd_get h, rd_get (show i < l.length by omega)]
      have := List.pairwise_iff_getElem.1 hs i (i + 1) (by omega) h (by omega)
      omega
    refine Ev.succ ?_
    simp only [slices_IsSorted_int_int.l0, if_pos (show ((i + 1 : Nat) : Int) > 0 by omega), if_pos (show (0 : Int) ≤ ((i + 1 : Nat) : Int) by omega), if_pos (show ((i + 1 : Nat) : Int) < (l.length : Int) by omega), w1, if_pos (show (0 : Int) ≤ (i : Int) by omega), if_pos (show (i : Int) < (l.length : Int) by omega)]
    refine Ev.bind_some (less_int_f _ _) ?_
    rw [decide_eq_false hle]
    simp only [Bool.false_eq_true, if_false]
    exact ih
theorem IsSorted_loop (l : List Int) (hb : l.length < 9223372036854775807) (hs : l.Pairwise (· ≤ ·)) : Ev (fun k => slices_IsSorted_int_int.f k l) true := by
  unfold slices_IsSorted_int_int.f
  rcases Nat.eq_zero_or_pos l.length with h | h
  · refine Ev.succ ?_
    have w1 : wrap64 ((l.length : Int) - 1) = -1 := by rw [wrap_id (by omega) (by omega)]; omega
    simp only [w1, slices_IsSorted_int_int.l0, if_neg (show ¬ (-1 : Int) > 0 by omega)]
    exact Ev.some _
  · have w1 : wrap64 ((l.length : Int) - 1) = ((l.length - 1 : Nat) : Int) := by rw [wrap_id (by omega) (by omega)]; omega
    rw [w1]
    exact IsSorted_down l hb hs (l.length - 1) (by omega)
theorem VoicesImages : sackbutlaw06_VoicesImages.Pure := by
  intro n0 a b kk t _ ha1 _ _ hb1 _ _ _
  have hM : maxLen = 9223372036854775807 := rfl
  refine Ev.rounds (g := fun q => sackbutlaw06_VoicesImages.f q n0 a b kk t) ?_
  unfold sackbutlaw06_VoicesImages.f
  by_cases h : TwoN n0 a b
  · obtain ⟨n, rfl⟩ : ∃ n : Nat, n0 = (n : Int) := ⟨n0.toNat, by have := h.1.1; omega⟩
    have hn := h.1.1
    have hn2 := h.1.2.1
    have hal := h.1.2.2.2.1
    have hbl := h.2.1.2.2.2.1
    obtain ⟨q, k, d, hq, hk, hnear, hd, hmin⟩ := near_spec h
    have hN : voices_Near.f (n : Int) a b = some (risL (imgV n b q k), d, 0) := by unfold voices_Near.f; rw [if_pos h, hnear]; rfl
    have hC : ∀ v, TwoN n a v → voices_Cost.f (n : Int) a v = some ((bestV n a v).2, 0) := fun v hv => by unfold voices_Cost.f; rw [if_pos hv]
    refine Ev.bind_some (list9_f a) ?_
    refine Ev.bind_some (list9_f b) ?_
    rw [voi_take9 h.1, voi_take9 h.2.1]
    refine Ev.bind_some hN ?_
    simp only [if_true]
    refine Ev.bind (refTwo_ev n a b (by omega) (by omega)) ?_
    simp only [h, decide_true, Bool.not_true]
    have hu : IntKind.u64.wrap (n : Int) = n := by rw [wrapU n]; omega
    obtain ⟨K, hKe, hK⟩ : ∃ K, wrap64 (Int.tmod (IntKind.u64.wrap kk) (n : Int)) = K ∧ (0 ≤ K ∧ K < n) := by
      have h0 : 0 ≤ IntKind.u64.wrap kk := by rw [wrapU kk]; omega
      rw [Int.tmod_eq_emod_of_nonneg h0]
      have h1 := Int.emod_nonneg (IntKind.u64.wrap kk) (show (n : Int) ≠ 0 by omega)
      have h2 := Int.emod_lt_of_pos (IntKind.u64.wrap kk) (show (0 : Int) < n by omega)
      exact ⟨_, rfl, by rw [wrap_id (by omega) (by omega)]; exact ⟨h1, h2⟩⟩
    refine Ev.succ ?_
    simp only [sackbutlaw06_VoicesImages.j0, Bool.false_eq_true, if_false, hKe, hu, if_neg (show ¬ (n : Int) = 0 by omega)]
    have htwoA : TwoN n a (risR (a.map (vImg n K t))) := ⟨h.1, voi_perm (voi_img t h.1) (risR_perm _), by rw [(risR_perm _).length_eq, List.length_map]⟩
    have htwoB : TwoN n a (risR (b.map (vImg n K t))) := ⟨h.1, voi_perm (voi_img t h.2.1) (risR_perm _), by rw [(risR_perm _).length_eq, List.length_map]; exact h.2.2⟩
    -- the nearest of a's own images
    obtain ⟨q1, k1, d1, hq1, hk1, hnear1, hd1, hmin1⟩ := near_spec htwoA
    obtain ⟨q2, k2, hq2, hk2, hback⟩ := img_back h.1 t hK
    have hperm : (imgV n (risR (a.map (vImg n K t))) q2 k2).Perm a := by
      have h1 : (imgV n (risR (a.map (vImg n K t))) q2 k2).Perm (imgV n (a.map (vImg n K t)) q2 k2) := by
        unfold imgV; exact (risR_perm _).map _
      rwa [hback] at h1
    have hd0 : d1 = 0 := by
      have h1 := hmin1 q2 k2 hq2 hk2
      have h2 := (cost_zero (img_two htwoA q2 k2)).2 hperm.symm
      have h3 := cost_nonneg (img_two htwoA q1 k1)
      omega
    have hy : risL (imgV n (risR (a.map (vImg n K t))) q1 k1) = risR a := by
      have h1 := (cost_zero (img_two htwoA q1 k1)).1 (by rw [← hd1]; exact hd0)
      exact risL_risR h1.symm
    have hN1 : voices_Near.f (n : Int) a (risR (a.map (vImg n K t))) = some (risR a, 0, 0) := by unfold voices_Near.f; rw [if_pos htwoA, hnear1, hy, hd0]; rfl
    refine Ev.bind_some (list9_f a) ?_
    rw [voi_take9 h.1]
    refine Ev.bind (Image_ev t h.1 hK) ?_
    refine Ev.bind_some hN1 ?_
    refine Ev.bind_some (list9_f a) ?_
    refine Ev.bind_some (list9_f b) ?_
    rw [voi_take9 h.1, voi_take9 h.2.1]
    refine Ev.bind_some (hC b h) ?_
    refine Ev.bind_some (list9_f a) ?_
    rw [voi_take9 h.1]
    refine Ev.bind (Image_ev t h.2.1 hK) ?_
    refine Ev.bind_some (hC _ htwoB) ?_
    refine Ev.bind_some (list9_f a) ?_
    rw [voi_take9 h.1]
    have htwoX : TwoN n a (risL (imgV n b q k)) := two_perm (img_two h q k) (List.Perm.refl a) (risL_perm _)
    have hxl : (risL (imgV n b q k)).length ≤ 6 := htwoX.2.1.2.2.2.1
    have hcl : slices_Clone_int_int.f (risL (imgV n b q k)) = some (risL (imgV n b q k)) := by unfold slices_Clone_int_int.f; rw [if_pos (by omega)]
    refine Ev.bind_some hcl ?_
    refine Ev.bind_some (hC _ htwoX) ?_
    simp only [if_true]
    refine Ev.bind_some (rising_f a (by omega)) ?_
    refine Ev.bind (Equal_ev (risR a) (risR a) (by rw [risR_length]; omega)) ?_
    rw [decide_eq_true rfl]
    simp only [if_true]
    -- the costs
    have hcp : d ≤ (bestV n a b).2 := by
      have h1 := hmin 0 0 (by omega) (by omega)
      have h2 : imgV n b 0 0 = b := by
        rw [img_vImg _ _ _ _ (by omega)]
        refine (List.map_congr_left (g := id) (fun x hx => ?_)).trans (List.map_id b)
        have hxr := h.2.1.2.2.2.2 x hx
        simp only [vImg, id]
        simp only [Bool.false_eq_true, if_false, decide_eq_true_eq, show ¬ (0 : Nat) = 1 by decide]
        rw [Int.natCast_zero, Int.add_zero, Int.emod_eq_of_lt hxr.1 hxr.2]
      rwa [h2] at h1
    have hcq : d ≤ (bestV n a (risR (b.map (vImg n K t)))).2 := by
      have e1 : b.map (vImg n K t) = imgV n b (if t = true then 1 else 0) K.toNat := by
        rw [img_vImg _ _ _ _ (by split <;> omega), Int.toNat_of_nonneg hK.1]
        cases t <;> rfl
      have h1 := hmin (if t = true then 1 else 0) K.toNat (by split <;> omega) (by omega)
      rw [← e1] at h1
      have h2 := two_img (K := K) t h
      have h3 : TwoN n a (b.map (vImg n K t)) := ⟨h.1, voi_img t h.2.1, by rw [List.length_map]; exact h.2.2⟩
      rw [cost_both h3 (List.Perm.refl a) (risR_perm _)]
      exact h1
    have hcr : d = (bestV n a (risL (imgV n b q k))).2 := by
      rw [cost_both (img_two h q k) (List.Perm.refl a) (risL_perm _)]; exact hd
    simp only [if_pos hcp, if_pos hcq, if_pos hcr]
    refine Ev.bind (IsSorted_loop _ (by omega) (risL_sorted _)) ?_
    simp only [if_true]
    exact Ev.bind_some awake_f (Ev.some _)
  · have h9 : ¬ TwoN n0 (a.take 9) (b.take 9) := fun h3 => h ((two_take n0 a b).1 h3)
    have hN : voices_Near.f n0 (a.take 9) (b.take 9) = some ([], 0, 2) := by unfold voices_Near.f; rw [if_neg h9]
    refine Ev.bind_some (list9_f a) ?_
    refine Ev.bind_some (list9_f b) ?_
    refine Ev.bind_some hN ?_
    simp only [if_neg (show ¬ (2 : Int) = 0 by decide)]
    refine Ev.succ ?_
    simp only [sackbutlaw06_VoicesImages.j0, if_true]
    exact Ev.bind_some awake_f (Ev.some _)

end Go.Proofs.Ytfjafmgaahfhgaa.P
namespace Go.Proofs.Ytfjafmgaahfhgaa.Pure
theorem VoicesImages : Go.Proofs.Ytfjafmgaahfhgaa.P.sackbutlaw06_VoicesImages.Pure := Go.Proofs.Ytfjafmgaahfhgaa.P.VoicesImages
end Go.Proofs.Ytfjafmgaahfhgaa.Pure
namespace Go.Proofs.Ytfjafmgaahfhgaa.voicesImages
open Go.ChangeShapes Go.WideShapes Go.ChangeAt Go.RowKit
open Go.ChangeMaps (open_string shut_string)
set_option linter.unusedVariables false
theorem own : ownKnob Try.prog.godebug = none := by kernel_rfl
theorem laidOut : laidOutB Try.prog = true := by kernel_rfl
def IsRow (k : IntKind) (w : World) (a : Option Addr) (len cap : Nat) (zs : List Int) : Prop :=
  (a = none ∧ len = 0 ∧ cap = 0 ∧ zs = []) ∨
  ∃ x, a = some x ∧ len ≤ cap ∧ cap ≤ maxLen ∧ zs.length = cap ∧ (∀ i, i < zs.length → w.cell? (x.add i) = some (.int k (zs.getD i 0))) ∧ ∀ n ∈ zs, (Lit.int k n).wf = true
set_option maxRecDepth 100000 in
theorem lifted (os : Os) (started : os.Started) (H : Type) (enc : TypeId × Value → H) :
    ReturnsInHanded {} Try.checked os 7 .any (Rows.voicesImagesSpec.pre6 enc Try.prog Try.f7 Rows.voicesImagesRow.domain false) (Rows.voicesImagesSpec.post enc Try.prog Try.f7 false true false false) := by
  refine returnsInHanded_of_change_sized (C := Try.checked) own started (by kernel_rfl) Try.func7
    (ChangeSpec.witness6 (enc := enc) (C := Try.checked) false ⟨#[], #[.int .i64 0, .slice none 0 0, .slice none 0 0, .int .i64 0, .bool false], []⟩ 8 (by kernel_rfl) (by kernel_rfl) (by kernel_rfl) (by kernel_rfl)) ?_
  intro W base args ds gs before hval0 hW hcnd hsz0 _
  have hsz : (DataW.weightsEach Try.prog (Try.f7.params.toList ++ Rows.voicesImagesSpec.plain.varTypes Try.prog) (ds ++ gs)).all (· ≤ reachBytes) = true := hsz0
  have hval : ∀ (j : Nat) t v, Try.f7.params[j]? = some t → args[j]? = some v → Value.okWide Try.prog W .any base t v := hval0
  have hW' := hW
  obtain ⟨p, q, hA0, hV, rfl, hfz, hnd⟩ := hW
  have hA : DataW.TrodAll enc Try.prog W 0 (fun _ => true) true Try.f7.params.toList args.toList ds p := hA0
  rw [Try.params7] at hA hval hsz
  obtain ⟨v0, vs0, d0, ds0, p0, q0, hargs, rfl, rfl, h0, r0⟩ := trodAll_cons hA
  obtain ⟨v1, vs1, d1, ds1, p1, q1, rfl, rfl, rfl, h1, r1⟩ := trodAll_cons r0
  obtain ⟨v2, vs2, d2, ds2, p2, q2, rfl, rfl, rfl, h2, r2⟩ := trodAll_cons r1
  obtain ⟨v3, vs3, d3, ds3, p3, q3, rfl, rfl, rfl, h3, r3⟩ := trodAll_cons r2
  obtain ⟨v4, vs4, d4, ds4, p4, q4, rfl, rfl, rfl, h4, r4⟩ := trodAll_cons r3
  obtain ⟨rfl, rfl, rfl⟩ := trodAll_nil r4
  obtain rfl : args = #[v0, v1, v2, v3, v4] := by cases args; simp_all
  obtain ⟨rfl, rfl⟩ := trodVars_none hV
  obtain ⟨a0, rfl, rfl, rfl, w0⟩ := open_int Try.underlying3 (hval 0 3 v0 rfl rfl) h0
  obtain ⟨a1, len1, cap1, rfl⟩ := okWide_slice Try.underlying23 (hval 1 23 v1 rfl rfl)
  have k1 := h1
  have lt1 : ∀ x ∈ p1, x.block < W.heap.size := by obtain ⟨m, hm⟩ := k1; exact DataW.trod_lt m _ _ _ hm
  obtain ⟨z1, w1⟩ : ∃ zs, IsRow .i64 W a1 len1 cap1 zs := by
    obtain ⟨fuel, hf⟩ := h1
    rcases open_ints Try.underlying23 Try.underlying3 (by kernel_rfl) hf with ⟨hcs, _⟩ | ⟨x, l, c, zs, hcs, _, hl, hm, hz, _, hcell, hwz⟩
    · simp [Value.cells] at hcs
      obtain ⟨rfl, rfl, rfl⟩ := hcs
      exact ⟨[], .inl ⟨rfl, rfl, rfl, rfl⟩⟩
    · simp [Value.cells] at hcs
      obtain ⟨rfl, rfl, rfl⟩ := hcs
      exact ⟨zs, .inr ⟨_, rfl, hl, hm, by simpa using hz, hcell, hwz⟩⟩
  have y1 : len1 * 8 ≤ 140737488351232 := Go.Proofs.YtfjafmgaahfhgaaW.PrintWords.sized_ints hsz (j := 1) (t := 23) rfl rfl Try.underlying23 Try.underlying3 (by kernel_rfl) (by kernel_rfl) h1
  obtain ⟨a2, len2, cap2, rfl⟩ := okWide_slice Try.underlying23 (hval 2 23 v2 rfl rfl)
  have k2 := h2
  have lt2 : ∀ x ∈ p2, x.block < W.heap.size := by obtain ⟨m, hm⟩ := k2; exact DataW.trod_lt m _ _ _ hm
  obtain ⟨z2, w2⟩ : ∃ zs, IsRow .i64 W a2 len2 cap2 zs := by
    obtain ⟨fuel, hf⟩ := h2
    rcases open_ints Try.underlying23 Try.underlying3 (by kernel_rfl) hf with ⟨hcs, _⟩ | ⟨x, l, c, zs, hcs, _, hl, hm, hz, _, hcell, hwz⟩
    · simp [Value.cells] at hcs
      obtain ⟨rfl, rfl, rfl⟩ := hcs
      exact ⟨[], .inl ⟨rfl, rfl, rfl, rfl⟩⟩
    · simp [Value.cells] at hcs
      obtain ⟨rfl, rfl, rfl⟩ := hcs
      exact ⟨zs, .inr ⟨_, rfl, hl, hm, by simpa using hz, hcell, hwz⟩⟩
  have y2 : len2 * 8 ≤ 140737488351232 := Go.Proofs.YtfjafmgaahfhgaaW.PrintWords.sized_ints hsz (j := 2) (t := 23) rfl rfl Try.underlying23 Try.underlying3 (by kernel_rfl) (by kernel_rfl) h2
  obtain ⟨a3, rfl, rfl, rfl, w3⟩ := open_int Try.underlying3 (hval 3 3 v3 rfl rfl) h3
  obtain ⟨a4, rfl, rfl, rfl⟩ := open_bool Try.underlying4 (hval 4 4 v4 rfl rfl) h4
  clear hA0 hval0 hsz0 hsz
  refine (P.sackbutlaw06_VoicesImages.walk Pure.VoicesImages a0 a1 len1 cap1 z1 a2 len2 cap2 z2 a3 a4 W w0 w1 y1 w2 y2 w3).mono fun e W' ⟨he, bel⟩ => ?_
  subst he
  exact ⟨_, rfl, _, _, _, [], _, [], hW', trodAll_mk1 (shut_bool Try.underlying4 _), (trodAll_cons_mk (shut_int Try.underlying3 w0) (trodAll_cons_mk (Below.trod laidOut (by kernel_rfl) (of_decide_eq_true (by kernel_rfl)) k1 bel lt1) (trodAll_cons_mk (Below.trod laidOut (by kernel_rfl) (of_decide_eq_true (by kernel_rfl)) k2 bel lt2) (trodAll_cons_mk (shut_int Try.underlying3 w3) (trodAll_cons_mk (shut_bool Try.underlying4 _) trodAll_mk0))))), rfl, bel.frame _, fun h => by cases h⟩
theorem over : Rows.voicesImagesRow.holds Try.pinned (OpenSpec.ofChange Rows.voicesImagesSpec) :=
  OpenClaim.holds_of_wide 7 Try.f7 rfl rfl rfl rfl rfl rfl rfl ⟨rfl, rfl, rfl, rfl, rfl⟩ rfl rfl rfl rfl rfl (by kernel_rfl) Try.func7 (by kernel_rfl)
    (of_decide_eq_true (by kernel_rfl)) (by unfold Func.isWrapper; first | (rw [if_pos (by decide +kernel)]; kernel_rfl) | (rw [if_neg (by decide +kernel)]; exact ⟨rfl, rfl⟩))
    (fun os started H enc _ => lifted os started H enc)
theorem proved : Rows.VoicesImagesSaid := over
#print axioms proved
end Go.Proofs.Ytfjafmgaahfhgaa.voicesImages
namespace Go.Proofs.Ytfjafmgaahfhgaa
/-- The row, under a short name, for the claim. -/
theorem voicesImages_holds : Rows.VoicesImagesSaid := voicesImages.proved
end Go.Proofs.Ytfjafmgaahfhgaa
