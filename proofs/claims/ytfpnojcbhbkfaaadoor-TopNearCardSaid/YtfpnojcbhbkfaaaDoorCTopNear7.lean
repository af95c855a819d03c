/- Proved here: the Go function sackbuttop.TopNear returns true for every input (its printed form comes to true), whatever its arguments. Conditions: none beyond the row's own reach in memory. -/
import Derived.LaidMore
import Derived.Stop.Joined
import Derived.ProofKit
import Derived.OpenShut
import Derived.Test.YtfpnojcbhbkfaaaDoorRows
import Derived.WalkKit
import Derived.ShutString
import Derived.ChangeOld
import Derived.Below
import Derived.SizedLaws
import Derived.SevenTiedAt
import Derived.Test.YtfpnojcbhbkfaaaDoorCards
import Derived.Test.YtfpnojcbhbkfaaaDoorTie
import Derived.Test.YtfpnojcbhbkfaaaDoorCTopNear1
import Derived.Test.YtfpnojcbhbkfaaaDoorCTopNear2
import Derived.Test.YtfpnojcbhbkfaaaDoorCTopNear3
import Derived.Test.YtfpnojcbhbkfaaaDoorCTopNear4
import Derived.Test.YtfpnojcbhbkfaaaDoorCTopNear5
import Derived.Test.YtfpnojcbhbkfaaaDoorCTopNear6
namespace Go.Proofs.YtfpnojcbhbkfaaaDoor.P
open Go.RowKit Go.Proofs.YtfpnojcbhbkfaaaDoorW.PrintWords Go.Proofs.YtfpnojcbhbkfaaaDoorW.PrintLast Go.Proofs.YtfpnojcbhbkfaaaDoorW.PrintMore
attribute [local go_sem] max2_int min2_int max_two min_two max_three min_three max_four min_four   -- for this text's walks alone
set_option linter.unusedVariables false
set_option linter.unusedSimpArgs false

/-! plain lemmas on voicings, gathered by mk_vplain.py -/
/-! the document's list of all leadings -/
def rlead (k : Nat) : Nat → List Nat → List (List Nat)
  | 0, cur => [cur]
  | r + 1, cur => (List.range k).flatMap fun x => if x ∈ cur then [] else rlead k r (cur ++ [x])
theorem len_le_of_sub : ∀ (l l' : List Nat), l.Nodup → (∀ c, c ∈ l → c ∈ l') → l.length ≤ l'.length
  | [], _, _, _ => Nat.zero_le _
  | c :: l, l', hd, hs => by
    have h1 := hs c (by simp)
    have hd' := List.nodup_cons.1 hd
    have := len_le_of_sub l (l'.erase c) hd'.2 (fun x hx => by
      have hx' := hs x (by simp [hx])
      have hne : x ≠ c := fun e => hd'.1 (e ▸ hx)
      exact (List.mem_erase_of_ne hne).2 hx')
    rw [List.length_erase_of_mem h1] at this
    have hp : 0 < l'.length := List.length_pos_of_mem h1
    simp only [List.length_cons]; omega
theorem rlead_ne {k : Nat} : ∀ (r : Nat) (cur : List Nat), cur.length + r = k → rlead k r cur ≠ []
  | 0, _, _ => by simp [rlead]
  | r + 1, cur, h => by
    have : ∃ x, x < k ∧ x ∉ cur := by
      refine Classical.byContradiction fun hn => ?_
      have h1 := len_le_of_sub (List.range k) cur List.nodup_range (fun x hx => Classical.byContradiction fun h2 => hn ⟨x, List.mem_range.1 hx, h2⟩)
      rw [List.length_range] at h1; omega
    obtain ⟨x, hx, hc⟩ := this
    obtain ⟨l, hl⟩ := List.exists_mem_of_ne_nil _ (rlead_ne (k := k) r (cur ++ [x]) (by rw [List.length_append, List.length_singleton]; omega))
    refine List.ne_nil_of_mem (a := l) ?_
    simp only [rlead]
    rw [List.mem_flatMap]
    exact ⟨x, List.mem_range.2 hx, by rw [if_neg hc]; exact hl⟩
theorem flat_congr {l : List Nat} {f g : Nat → List (List Nat)} (h : ∀ x ∈ l, f x = g x) : l.flatMap f = l.flatMap g := by
  rw [List.flatMap_def, List.flatMap_def, List.map_congr_left h]
theorem ldg_rlead {k : Nat} : ∀ (r used : Nat) (cur : List Nat), (∀ x, x < k → used.testBit x = decide (x ∈ cur)) → ldg k r used cur = rlead k r cur
  | 0, _, _, _ => rfl
  | r + 1, used, cur, h => by
    simp only [ldg, rlead]
    refine flat_congr (fun x hx => ?_)
    have hx' := List.mem_range.1 hx
    rw [h x hx']
    by_cases hc : x ∈ cur
    · simp [hc]
    · simp only [hc, decide_false, Bool.false_eq_true, if_false]
      exact ldg_rlead r (used ||| 2 ^ x) (cur ++ [x]) (fun y hy => by
        rw [Nat.testBit_or, Nat.testBit_two_pow, h y hy]
        by_cases h1 : y ∈ cur <;> by_cases h2 : x = y <;> simp [h1, h2, eq_comm]
        all_goals (first | (intro h3; exact absurd h3.symm h2) | skip))
theorem ldg_all (k : Nat) : ldg k k 0 [] = rlead k k [] := ldg_rlead k 0 [] (fun x _ => by simp)
/-! the document's first cheapest leading -/
def rstep (pr : List Nat → Int) (s : Option (List Nat)) (l : List Nat) : Option (List Nat) := match s with
  | none => some l
  | some b => if pr l < pr b then some l else some b
def rfold (pr : List Nat → Int) (L : List (List Nat)) : Option (List Nat) := L.foldl (rstep pr) none
theorem fold_same (pr : List Nat → Int) : ∀ (L : List (List Nat)) (s : Option (List Nat) × Int), (∀ b, s.1 = some b → s.2 = pr b) → (L.foldl (bstep pr (fun _ => true)) s).1 = L.foldl (rstep pr) s.1 ∧ ∀ b, (L.foldl (bstep pr (fun _ => true)) s).1 = some b → (L.foldl (bstep pr (fun _ => true)) s).2 = pr b
  | [], s, h => ⟨rfl, h⟩
  | l :: L, s, h => by
    rw [List.foldl_cons, List.foldl_cons]
    have h1 : (bstep pr (fun _ => true) s l).1 = rstep pr s.1 l ∧ ∀ b, (bstep pr (fun _ => true) s l).1 = some b → (bstep pr (fun _ => true) s l).2 = pr b := by
      obtain ⟨s1, s2⟩ := s
      cases s1 with
      | none =>
        unfold bstep rstep
        rw [if_pos ⟨.inl rfl, rfl⟩]
        exact ⟨rfl, fun b hb => by cases hb; rfl⟩
      | some b =>
        have hb := h b rfl
        simp only at hb
        unfold bstep rstep
        by_cases hlt : pr l < pr b
        · rw [if_pos ⟨.inr (by rw [hb]; exact hlt), rfl⟩]
          exact ⟨by simp only; rw [if_pos hlt], fun c hc => by cases hc; rfl⟩
        · rw [if_neg (fun h => h.1.elim (fun h => by cases h) (fun h => hlt (by rw [← hb]; exact h)))]
          exact ⟨by simp only; rw [if_neg hlt], fun c hc => by cases hc; exact hb⟩
    have := fold_same pr L (bstep pr (fun _ => true) s l) h1.2
    rw [h1.1] at this
    exact this
theorem best_ref (n : Int) (a b : List Int) : rfold (prV n a b) (rlead a.length a.length []) = (bestV n a b).1 ∧ ∀ l, (bestV n a b).1 = some l → (bestV n a b).2 = prV n a b l := by
  have h := fold_same (prV n a b) (ldg a.length a.length 0 []) (none, 0) (fun b hb => by cases hb)
  unfold bestV bfold rfold
  rw [← ldg_all]
  exact ⟨h.1.symm, h.2⟩
theorem rfold_mem (pr : List Nat → Int) : ∀ (L : List (List Nat)) (s : Option (List Nat)) (b : List Nat), L.foldl (rstep pr) s = some b → b ∈ L ∨ s = some b
  | [], s, b, h => .inr h
  | l :: L, s, b, h => by
    rw [List.foldl_cons] at h
    rcases rfold_mem pr L _ b h with h1 | h1
    · exact .inl (by simp [h1])
    · unfold rstep at h1
      split at h1
      · cases h1; exact .inl (by simp)
      · split at h1
        · cases h1; exact .inl (by simp)
        · exact .inr h1
/-! the best leading is one -/
theorem rstep_some (pr : List Nat → Int) : ∀ (L : List (List Nat)) (b : List Nat), ∃ c, L.foldl (rstep pr) (some b) = some c
  | [], b => ⟨b, rfl⟩
  | l :: L, b => by
    rw [List.foldl_cons]
    unfold rstep
    simp only
    split
    · exact rstep_some pr L l
    · exact rstep_some pr L b
theorem rfold_some (pr : List Nat → Int) {L : List (List Nat)} (h : L ≠ []) : ∃ b ∈ L, rfold pr L = some b := by
  cases L with
  | nil => exact absurd rfl h
  | cons l L =>
    obtain ⟨c, hc⟩ := rstep_some pr L l
    have e : rfold pr (l :: L) = some c := hc
    refine ⟨c, ?_, e⟩
    exact (rfold_mem pr (l :: L) none c e).elim id (fun h => by cases h)
/-- what two voices need of each other -/
def toneI (a : List Int) (i : Nat) : Int := a.getD i 0
/-! a least leading without crossing: two crossing voices exchange their tones -/
theorem ds_le {n x y m c : Int} (hn : 2 ≤ n) (hm : m = (y - x) + n * c) : dsN n x y ≤ max m (-m) := by
  have h1 := Int.emod_nonneg (y - x) (show n ≠ 0 by omega)
  have h2 := Int.emod_lt_of_pos (y - x) (show 0 < n by omega)
  have h3 := Int.mul_ediv_add_emod (y - x) n
  obtain ⟨e, he⟩ : ∃ e, e = (y - x) / n + c := ⟨_, rfl⟩
  have h4 : m = (y - x) % n + n * e := by rw [he, Int.mul_add]; omega
  unfold dsN mvN
  generalize (y - x) % n = r at *
  rcases Int.lt_or_le e 0 with h | h
  · have : n * e ≤ n * (-1) := Int.mul_le_mul_of_nonneg_left (by omega) (by omega)
    rw [show n * (-1) = -n by omega] at this
    generalize n * e = u at *
    split <;> omega
  · have : 0 ≤ n * e := Int.mul_nonneg (by omega) h
    generalize n * e = u at *
    split <;> omega
theorem mv_cong (n x y : Int) : ∃ c, mvN n x y = (y - x) + n * c := by
  have h3 := Int.mul_ediv_add_emod (y - x) n
  unfold mvN
  split
  · refine ⟨-((y - x) / n) - 1, ?_⟩
    rw [Int.mul_sub, Int.mul_neg]; omega
  · refine ⟨-((y - x) / n), ?_⟩
    rw [Int.mul_neg]; omega
def sumF (f : Nat → Nat → Int) : List Nat → Nat → Int
  | [], _ => 0
  | y :: l, i => f i y + sumF f l (i + 1)
theorem prI_sumF (n : Int) (a b : List Int) : ∀ (l : List Nat) (i : Nat), prI n a b (nums l) i = sumF (fun i y => dsN n (toneI a i) (toneI b y)) l i
  | [], _ => rfl
  | y :: l, i => by
    show dsN n (a.getD i 0) (b.getD (y : Int).toNat 0) + prI n a b (nums l) (i + 1) = _
    rw [prI_sumF n a b l (i + 1)]; rfl
/-- all leadings -/
theorem rlead_mem {k : Nat} : ∀ (r : Nat) (cur x : List Nat), cur.length + r = k → (x ∈ rlead k r cur ↔ ∃ s, x = cur ++ s ∧ s.length = r ∧ (∀ y ∈ s, y < k ∧ y ∉ cur) ∧ s.Nodup)
  | 0, cur, x, h => by
    simp only [rlead, List.mem_singleton]
    constructor
    · rintro rfl; exact ⟨[], by simp, rfl, by simp, by simp⟩
    · rintro ⟨s, rfl, hs, _⟩
      have : s = [] := List.eq_nil_of_length_eq_zero hs
      simp [this]
  | r + 1, cur, x, h => by
    simp only [rlead, List.mem_flatMap, List.mem_range]
    constructor
    · rintro ⟨y, hy, hx⟩
      split at hx
      · cases hx
      · rename_i hc
        obtain ⟨s, rfl, hs, hs2, hs3⟩ := (rlead_mem r (cur ++ [y]) x (by rw [List.length_append, List.length_singleton]; omega)).1 hx
        refine ⟨y :: s, by simp, by simp [hs], fun z hz => ?_, ?_⟩
        · rcases List.mem_cons.1 hz with rfl | hz
          · exact ⟨hy, hc⟩
          · exact ⟨(hs2 z hz).1, fun h => (hs2 z hz).2 (by simp [h])⟩
        · rw [List.nodup_cons]
          exact ⟨fun h => (hs2 y h).2 (by simp), hs3⟩
    · rintro ⟨s, rfl, hs, hs2, hs3⟩
      cases s with
      | nil => simp at hs
      | cons y s =>
        rw [List.nodup_cons] at hs3
        have hy := hs2 y (by simp)
        refine ⟨y, hy.1, ?_⟩
        rw [if_neg hy.2]
        refine (rlead_mem r (cur ++ [y]) _ (by rw [List.length_append, List.length_singleton]; omega)).2 ⟨s, by simp, by simpa using hs, fun z hz => ⟨(hs2 z (by simp [hz])).1, fun h => ?_⟩, hs3.2⟩
        rcases List.mem_append.1 h with h | h
        · exact (hs2 z (by simp [hz])).2 h
        · rw [List.mem_singleton] at h; subst h; exact hs3.1 hz
theorem all_mem {k : Nat} {x : List Nat} : x ∈ rlead k k [] ↔ x.length = k ∧ (∀ y ∈ x, y < k) ∧ x.Nodup := by
  rw [rlead_mem k [] x (by simp)]
  constructor
  · rintro ⟨s, rfl, h1, h2, h3⟩; exact ⟨h1, fun y hy => (h2 y hy).1, h3⟩
  · rintro ⟨h1, h2, h3⟩; exact ⟨x, rfl, h1, fun y hy => ⟨h2 y hy, by simp⟩, h3⟩
theorem rstep_min (pr : List Nat → Int) : ∀ (L : List (List Nat)) (s : Option (List Nat)) (b : List Nat), L.foldl (rstep pr) s = some b → (∀ y ∈ L, pr b ≤ pr y) ∧ ∀ c, s = some c → pr b ≤ pr c
  | [], s, b, h => ⟨fun y hy => (by cases hy), fun c hc => (by rw [List.foldl_nil] at h; rw [h] at hc; cases hc; exact Int.le_refl _)⟩
  | l :: L, s, b, h => by
    rw [List.foldl_cons] at h
    obtain ⟨h1, h2⟩ := rstep_min pr L _ b h
    unfold rstep at h2
    cases s with
    | none =>
      have h3 := h2 l rfl
      exact ⟨fun y hy => (List.mem_cons.1 hy).elim (fun e => e ▸ h3) (h1 y), fun c hc => by cases hc⟩
    | some c =>
      simp only at h2
      by_cases hlt : pr l < pr c
      · rw [if_pos hlt] at h2
        have h3 := h2 l rfl
        exact ⟨fun y hy => (List.mem_cons.1 hy).elim (fun e => e ▸ h3) (h1 y), fun d hd => by cases hd; omega⟩
      · rw [if_neg hlt] at h2
        have h3 := h2 c rfl
        exact ⟨fun y hy => (List.mem_cons.1 hy).elim (fun e => by rw [e]; omega) (h1 y), fun d hd => by cases hd; exact h3⟩
theorem bestV_min {n : Int} {a b : List Int} (h : TwoN n a b) : ∃ l ∈ rlead a.length a.length [], (bestV n a b).2 = prV n a b l ∧ ∀ y ∈ rlead a.length a.length [], prV n a b l ≤ prV n a b y := by
  obtain ⟨l, hl, e⟩ := rfold_some (prV n a b) (rlead_ne (k := a.length) a.length [] (by simp))
  obtain ⟨h1, h2⟩ := best_ref n a b
  have e2 := e
  rw [h1] at e
  exact ⟨l, hl, h2 l e, (rstep_min (prV n a b) _ none l e2).1⟩
/-! the cost is the least sum over the orders of the other voicing's tones -/
def sumZ (n : Int) : List Int → List Int → Int
  | x :: a, y :: c => dsN n x y + sumZ n a c
  | _, _ => 0
theorem perm_lift {α β : Type} (f : α → β) {c d : List β} (h : c.Perm d) : ∀ l : List α, d = l.map f → ∃ x : List α, x.Perm l ∧ c = x.map f := by
  induction h with
  | nil => intro l hl; exact ⟨[], (by cases l with | nil => exact List.Perm.nil | cons _ _ => cases hl), rfl⟩
  | cons x h ih =>
    intro l hl
    cases l with
    | nil => cases hl
    | cons y l =>
      rw [List.map_cons] at hl
      injection hl with h1 h2
      obtain ⟨z, hz, e⟩ := ih l h2
      exact ⟨y :: z, hz.cons y, by rw [List.map_cons, ← e, h1]⟩
  | swap x y t =>
    intro l hl
    match l, hl with
    | u :: v :: l, hl =>
      rw [List.map_cons, List.map_cons] at hl
      injection hl with h1 h2
      injection h2 with h2 h3
      exact ⟨v :: u :: l, List.Perm.swap u v l, by rw [List.map_cons, List.map_cons, h1, h2, h3]⟩
  | trans h1 h2 ih1 ih2 =>
    intro l hl
    obtain ⟨x, hx, e⟩ := ih2 l hl
    obtain ⟨y, hy, e2⟩ := ih1 x e
    exact ⟨y, hy.trans hx, e2⟩
theorem sumZ_nonneg {n : Int} (hn : 2 ≤ n) : ∀ a c : List Int, 0 ≤ sumZ n a c
  | [], [] => Int.le_refl _
  | [], _ :: _ => Int.le_refl _
  | _ :: _, [] => Int.le_refl _
  | x :: a, y :: c => by
    have := sumZ_nonneg hn a c
    have := (dsN_bd (x := x) (y := y) hn).1
    unfold sumZ; omega
theorem ds_self {n x : Int} (hn : 2 ≤ n) : dsN n x x = 0 := by
  have := ds_le (n := n) (x := x) (y := x) (m := 0) (c := 0) hn (by simp)
  have := (dsN_bd (x := x) (y := x) hn).1
  omega
theorem ds_zero {n x y : Int} (hn : 2 ≤ n) (hx : 0 ≤ x ∧ x < n) (hy : 0 ≤ y ∧ y < n) (h : dsN n x y = 0) : x = y := by
  obtain ⟨c, hc⟩ := mv_cong n x y
  have e : dsN n x y = max (mvN n x y) (-(mvN n x y)) := rfl
  have h0 : mvN n x y = 0 := by omega
  rw [h0] at hc
  rcases Int.lt_trichotomy c 0 with h | h | h
  · have := Int.mul_le_mul_of_nonneg_left (show c ≤ -1 by omega) (show 0 ≤ n by omega)
    rw [Int.mul_neg, Int.mul_one] at this; omega
  · rw [h, Int.mul_zero] at hc; omega
  · have := Int.mul_le_mul_of_nonneg_left (show 1 ≤ c by omega) (show 0 ≤ n by omega)
    rw [Int.mul_one] at this; omega
theorem sumZ_self {n : Int} (hn : 2 ≤ n) : ∀ a : List Int, sumZ n a a = 0
  | [] => rfl
  | x :: a => by unfold sumZ; rw [ds_self hn, sumZ_self hn a]; rfl
theorem sumZ_zero {n : Int} (hn : 2 ≤ n) : ∀ a c : List Int, a.length = c.length → (∀ x ∈ a, 0 ≤ x ∧ x < n) → (∀ x ∈ c, 0 ≤ x ∧ x < n) → sumZ n a c = 0 → a = c
  | [], [], _, _, _, _ => rfl
  | x :: a, y :: c, hl, ha, hc, h => by
    unfold sumZ at h
    have h1 := sumZ_nonneg hn a c
    have h2 := (dsN_bd (x := x) (y := y) hn).1
    rw [ds_zero hn (ha x (by simp)) (hc y (by simp)) (by omega), sumZ_zero hn a c (by simpa using hl) (fun z hz => ha z (by simp [hz])) (fun z hz => hc z (by simp [hz])) (by omega)]
/-- a leading is an order of the other tones -/
theorem sumF_sumZ (n : Int) (b : List Int) : ∀ (a : List Int) (x : List Nat) (F : Nat → Int) (s : Nat), a.length = x.length → (∀ i, i < a.length → F (s + i) = a.getD i 0) → sumF (fun i y => dsN n (F i) (toneI b y)) x s = sumZ n a (x.map (toneI b))
  | [], [], _, _, _, _ => rfl
  | z :: a, y :: x, F, s, h, hF => by
    rw [sumF, List.map_cons, sumZ, sumF_sumZ n b a x F (s + 1) (by simpa using h) (fun i hi => by rw [show s + 1 + i = s + (i + 1) by omega, hF (i + 1) (by simpa using hi)]; rfl), show F s = z from hF 0 (by simp)]
theorem prV_sumZ {n : Int} {a b : List Int} {x : List Nat} (h : a.length = x.length) : prV n a b x = sumZ n a (x.map (toneI b)) := by
  unfold prV
  rw [prI_sumF]
  exact sumF_sumZ n b a x (toneI a) 0 h (fun i _ => by rw [Nat.zero_add]; rfl)
theorem range_tones (b : List Int) : (List.range b.length).map (toneI b) = b := by
  refine List.ext_getElem (by simp) (fun i h1 h2 => ?_)
  rw [List.getElem_map, List.getElem_range]
  unfold toneI
  rw [List.getD_eq_getElem?_getD, List.getElem?_eq_getElem h2]; rfl
theorem perm_range {k : Nat} {x : List Nat} (h : x ∈ rlead k k []) : x.Perm (List.range k) := by
  obtain ⟨h1, h2, h3⟩ := all_mem.1 h
  refine (List.perm_ext_iff_of_nodup h3 List.nodup_range).2 (fun y => ⟨fun hy => List.mem_range.2 (h2 y hy), fun hy => ?_⟩)
  rcases Classical.em (y ∈ x) with hm | hm
  · exact hm
  · have := len_le_of_sub (y :: x) (List.range k) (List.nodup_cons.2 ⟨hm, h3⟩) (fun c hc => by
      rcases List.mem_cons.1 hc with rfl | hc
      · exact hy
      · exact List.mem_range.2 (h2 c hc))
    rw [List.length_range, List.length_cons] at this
    omega
/-- the cost -/
theorem cost_spec {n : Int} {a b : List Int} (h : TwoN n a b) : (∃ c, c.Perm b ∧ sumZ n a c = (bestV n a b).2) ∧ ∀ c, c.Perm b → (bestV n a b).2 ≤ sumZ n a c := by
  obtain ⟨l, hl, e, hmin⟩ := bestV_min h
  have hlen : ∀ x ∈ rlead a.length a.length [], a.length = x.length := fun x hx => (all_mem.1 hx).1.symm
  constructor
  · refine ⟨l.map (toneI b), ?_, by rw [e, prV_sumZ (hlen l hl)]⟩
    have := (perm_range hl).map (toneI b)
    rwa [h.2.2, range_tones] at this
  · intro c hc
    obtain ⟨x, hx, e2⟩ := perm_lift (toneI b) hc (List.range b.length) (range_tones b).symm
    have hxm : x ∈ rlead a.length a.length [] := all_mem.2 ⟨by rw [hx.length_eq, List.length_range, h.2.2], fun y hy => by have := List.mem_range.1 (hx.mem_iff.1 hy); rw [h.2.2]; exact this, hx.nodup_iff.2 List.nodup_range⟩
    have := hmin x hxm
    rw [e, e2, ← prV_sumZ (hlen x hxm)]
    exact this
theorem cost_le {n : Int} {a b : List Int} (h : TwoN n a b) {c : List Int} (hc : c.Perm b) : (bestV n a b).2 ≤ sumZ n a c := (cost_spec h).2 c hc
theorem cost_nonneg {n : Int} {a b : List Int} (h : TwoN n a b) : 0 ≤ (bestV n a b).2 := by
  obtain ⟨c, _, e⟩ := (cost_spec h).1
  rw [← e]; exact sumZ_nonneg h.1.1 _ _
theorem cost_zero {n : Int} {a b : List Int} (h : TwoN n a b) : (bestV n a b).2 = 0 ↔ a.Perm b := by
  constructor
  · intro h0
    obtain ⟨c, hc, e⟩ := (cost_spec h).1
    rw [h0] at e
    have := sumZ_zero h.1.1 a c (by rw [hc.length_eq]; exact h.2.2) h.1.2.2.2.2 (fun x hx => h.2.1.2.2.2.2 x (hc.mem_iff.1 hx)) e
    rw [this]; exact hc
  · intro hp
    have := cost_le h hp
    rw [sumZ_self h.1.1] at this
    have := cost_nonneg h
    omega

/-- what the fold keeps: one of the images' tones with the least cost -/
theorem near_fold {n : Int} {a : List Int} : ∀ (L M : List (List Int)) (st : Option (List Int × Int)), (∀ w d, st = some (w, d) → (∃ v ∈ M, w = risL v ∧ d = (bestV n a v).2) ∧ ∀ v ∈ M, d ≤ (bestV n a v).2) → (st = none → M = []) →
    ∀ w d, L.foldl (fun st v => seeS st (risL v) (bestV n a v).2) st = some (w, d) → (∃ v ∈ M ++ L, w = risL v ∧ d = (bestV n a v).2) ∧ ∀ v ∈ M ++ L, d ≤ (bestV n a v).2
  | [], M, st, h, _, w, d, e => by rw [List.append_nil]; exact h w d e
  | v :: L, M, st, h, h0, w, d, e => by
    rw [List.foldl_cons] at e
    have key : ∀ w d, seeS st (risL v) (bestV n a v).2 = some (w, d) → (∃ u ∈ M ++ [v], w = risL u ∧ d = (bestV n a u).2) ∧ ∀ u ∈ M ++ [v], d ≤ (bestV n a u).2 := by
      intro w d e
      cases st with
      | none =>
        have := h0 rfl
        subst this
        simp only [seeS, Option.some.injEq, Prod.mk.injEq] at e
        obtain ⟨rfl, rfl⟩ := e
        exact ⟨⟨v, by simp, rfl, rfl⟩, fun u hu => by simp at hu; subst hu; exact Int.le_refl _⟩
      | some p =>
        obtain ⟨w0, d0⟩ := p
        obtain ⟨⟨u0, hu0, e1, e2⟩, hmin⟩ := h w0 d0 rfl
        simp only [seeS] at e
        split at e
        · rename_i hc
          simp only [Option.some.injEq, Prod.mk.injEq] at e
          obtain ⟨rfl, rfl⟩ := e
          refine ⟨⟨v, by simp, rfl, rfl⟩, fun u hu => ?_⟩
          rcases List.mem_append.1 hu with h | h
          · have := hmin u h; omega
          · rw [List.mem_singleton] at h; subst h; exact Int.le_refl _
        · rename_i hc
          simp only [Option.some.injEq, Prod.mk.injEq] at e
          obtain ⟨rfl, rfl⟩ := e
          refine ⟨⟨u0, by simp [hu0], e1, e2⟩, fun u hu => ?_⟩
          rcases List.mem_append.1 hu with h | h
          · exact hmin u h
          · rw [List.mem_singleton] at h; subst h
            rw [not_or] at hc
            omega
    have := near_fold L (M ++ [v]) (seeS st (risL v) (bestV n a v).2) key (fun e2 => by obtain ⟨p, hp⟩ := seeS_some st (risL v) (bestV n a v).2; rw [hp] at e2; cases e2) w d e
    simpa using this
theorem img_mem {n : Nat} {b : List Int} {q k : Nat} (hq : q < 2) (hk : k < n) : imgV n b q k ∈ imgsTo n b 2 0 := by
  unfold imgsTo
  refine List.mem_append.2 (.inl (List.mem_flatMap.2 ⟨q, List.mem_range.2 hq, List.mem_map.2 ⟨k, List.mem_range.2 hk, rfl⟩⟩))
theorem mem_img {n : Nat} {b v : List Int} (h : v ∈ imgsTo n b 2 0) : ∃ q k, q < 2 ∧ k < n ∧ v = imgV n b q k := by
  unfold imgsTo at h
  rcases List.mem_append.1 h with h | h
  · obtain ⟨q, hq, h⟩ := List.mem_flatMap.1 h
    obtain ⟨k, hk, rfl⟩ := List.mem_map.1 h
    exact ⟨q, k, List.mem_range.1 hq, List.mem_range.1 hk, rfl⟩
  · simp at h
theorem near_spec {n : Nat} {a b : List Int} (h : TwoN n a b) : ∃ q k d, q < 2 ∧ k < n ∧ nearV n a b = some (risL (imgV n b q k), d) ∧ d = (bestV n a (imgV n b q k)).2 ∧ ∀ p j, p < 2 → j < n → d ≤ (bestV n a (imgV n b p j)).2 := by
  have hn := h.1.1
  obtain ⟨⟨w, d⟩, hp⟩ := nearF_some (n := (n : Int)) (a := a) (imgsTo n b 2 0) none (.inl (imgs_ne (by omega) b))
  obtain ⟨⟨v, hv, e1, e2⟩, hmin⟩ := near_fold (imgsTo n b 2 0) [] none (fun w d e => by cases e) (fun _ => rfl) w d hp
  rw [List.nil_append] at hv hmin
  obtain ⟨q, k, hq, hk, rfl⟩ := mem_img hv
  refine ⟨q, k, d, hq, hk, ?_, e2, fun p j hp hj => hmin _ (img_mem hp hj)⟩
  unfold nearV
  rw [Int.toNat_natCast, ← e1]
  exact hp

end Go.Proofs.YtfpnojcbhbkfaaaDoor.P
namespace Go.Proofs.YtfpnojcbhbkfaaaDoor.P
open Go.RowKit Go.Proofs.YtfpnojcbhbkfaaaDoorW.PrintWords Go.Proofs.YtfpnojcbhbkfaaaDoorW.PrintLast Go.Proofs.YtfpnojcbhbkfaaaDoorW.PrintMore
attribute [local go_sem] max2_int min2_int max_two min_two max_three min_three max_four min_four   -- for this text's walks alone
set_option linter.unusedVariables false
set_option linter.unusedSimpArgs false

/-! the tones of a chord, and which of its images are another chord -/
def tonesL (n c : Nat) : List Int := ((List.range n).filter fun x => c.testBit x).map Int.ofNat
theorem tonesL_mem {n c : Nat} {x : Int} : x ∈ tonesL n c ↔ ∃ y : Nat, x = y ∧ y < n ∧ c.testBit y = true := by
  unfold tonesL
  rw [List.mem_map]
  constructor
  · rintro ⟨y, hy, rfl⟩
    rw [List.mem_filter, List.mem_range] at hy
    exact ⟨y, rfl, hy.1, hy.2⟩
  · rintro ⟨y, rfl, h1, h2⟩
    exact ⟨y, List.mem_filter.2 ⟨List.mem_range.2 h1, h2⟩, rfl⟩
theorem tones_nodup (n c : Nat) : (tonesL n c).Nodup := by
  unfold tonesL
  exact List.Pairwise.map _ (fun a b hab => fun e => hab (Int.ofNat.inj e)) (List.nodup_range.filter _)
theorem img_nodup {n b q k : Nat} (hn : 2 ≤ n) : (imgV n (tonesL n b) q k).Nodup := by
  unfold imgV
  refine List.pairwise_map.2 ?_
  refine List.Pairwise.imp_of_mem (R := fun x y => x ≠ y) (fun {x y} hx hy hne => ?_) (tones_nodup n b)
  obtain ⟨x', rfl, hx', _⟩ := tonesL_mem.1 hx
  obtain ⟨y', rfl, hy', _⟩ := tonesL_mem.1 hy
  intro e
  refine hne ?_
  have h1 := Int.emod_emod_of_dvd
  have key : ((x' : Int) - y') % n = 0 := by
    by_cases hq : q = 0
    · simp only [if_pos hq, Int.one_mul] at e
      have := Int.emod_eq_emod_iff_emod_sub_eq_zero.1 e
      rwa [show (k : Int) + x' - (k + y') = x' - y' by omega] at this
    · simp only [if_neg hq] at e
      have := Int.emod_eq_emod_iff_emod_sub_eq_zero.1 e.symm
      rwa [show (k : Int) + -1 * y' - (k + -1 * x') = x' - y' by omega] at this
  obtain ⟨c, hc⟩ := Int.dvd_of_emod_eq_zero key
  have : c = 0 := by
    rcases Int.lt_trichotomy c 0 with h | h | h
    · have : (n : Int) * c ≤ n * (-1) := Int.mul_le_mul_of_nonneg_left (by omega) (by omega)
      omega
    · exact h
    · have : (n : Int) * 1 ≤ n * c := Int.mul_le_mul_of_nonneg_left (by omega) (by omega)
      omega
  subst this
  rw [Int.mul_zero] at hc
  omega
theorem mod_lt2 {n m : Nat} (h : m < 2 * n) : m % n = if m < n then m else m - n := mod2 h
theorem mem_img0 {n b k x : Nat} (hb : b < 2 ^ n) (hk : k < n) (hx : x < n) : (x : Int) ∈ imgV n (tonesL n b) 0 k ↔ (moveN n b k).testBit x = true := by
  rw [testBit_moveN hb hk hx]
  unfold imgV
  rw [List.mem_map]
  simp only [if_true, Int.one_mul]
  constructor
  · rintro ⟨z, hz, e⟩
    obtain ⟨y, rfl, hy, hyb⟩ := tonesL_mem.1 hz
    have e2 : (k + y) % n = x := by
      have : (((k + y) % n : Nat) : Int) = (x : Int) := by rw [Int.natCast_emod, Int.natCast_add]; exact e
      omega
    have e3 : (x + (n - k)) % n = y := by
      rw [mod_lt2 (by omega)] at e2 ⊢
      split at e2 <;> split <;> omega
    rw [e3]; exact hyb
  · intro h
    refine ⟨(((x + (n - k)) % n : Nat) : Int), tonesL_mem.2 ⟨_, rfl, Nat.mod_lt _ (by omega), h⟩, ?_⟩
    rw [← Int.natCast_add, ← Int.natCast_emod]
    congr 1
    rw [mod_lt2 (show x + (n - k) < 2 * n by omega)]
    split
    · rw [mod_lt2 (by omega)]; split <;> omega
    · rw [mod_lt2 (by omega)]; split <;> omega
theorem mem_img1 {n b k x : Nat} (hb : b < 2 ^ n) (hk : k < n) (hx : x < n) : (x : Int) ∈ imgV n (tonesL n b) 1 k ↔ (moveN n (turnN n b) k).testBit x = true := by
  rw [testBit_moveN (turnN_lt (by omega) hb) hk hx, turn_bit hb (Nat.mod_lt _ (by omega))]
  unfold imgV
  rw [List.mem_map]
  simp only [if_neg (show ¬ (1 : Nat) = 0 by decide)]
  constructor
  · rintro ⟨z, hz, e⟩
    obtain ⟨y, rfl, hy, hyb⟩ := tonesL_mem.1 hz
    have e2 : (k + (n - y)) % n = x := by
      have : (((k + (n - y)) % n : Nat) : Int) = (x : Int) := by
        rw [Int.natCast_emod, ← e, show ((k + (n - y) : Nat) : Int) = ((k : Int) + -1 * y) + n by omega, Int.add_emod_right]
      omega
    have e3 : (n - (x + (n - k)) % n) % n = y := by
      rw [mod_lt2 (by omega)] at e2
      rw [mod_lt2 (show x + (n - k) < 2 * n by omega)]
      split at e2
      · split
        · rw [mod_lt2 (by omega)]; split <;> omega
        · rw [mod_lt2 (by omega)]; split <;> omega
      · split
        · rw [mod_lt2 (by omega)]; split <;> omega
        · rw [mod_lt2 (by omega)]; split <;> omega
    rw [e3]; exact hyb
  · intro h
    refine ⟨(((n - (x + (n - k)) % n) % n : Nat) : Int), tonesL_mem.2 ⟨_, rfl, Nat.mod_lt _ (by omega), h⟩, ?_⟩
    have hz : (n - (x + (n - k)) % n) % n = if x ≤ k then k - x else n + k - x := by
      rw [mod_lt2 (show x + (n - k) < 2 * n by omega)]
      split
      · rw [mod_lt2 (by omega)]; split <;> split <;> omega
      · rw [mod_lt2 (by omega)]; split <;> split <;> omega
    rw [hz]
    split
    · rw [show (k : Int) + -1 * ((k - x : Nat) : Int) = x by omega, Int.emod_eq_of_lt (by omega) (by omega)]
    · rw [show (k : Int) + -1 * ((n + k - x : Nat) : Int) = (x : Int) - n by omega, Int.sub_emod_right, Int.emod_eq_of_lt (by omega) (by omega)]
theorem img_range {n b q k : Nat} (hn : 2 ≤ n) {v : Int} (h : v ∈ imgV n (tonesL n b) q k) : 0 ≤ v ∧ v < n := by
  unfold imgV at h
  obtain ⟨z, _, rfl⟩ := List.mem_map.1 h
  exact ⟨Int.emod_nonneg _ (by omega), Int.emod_lt_of_pos _ (by omega)⟩
theorem perm_bits {n a m : Nat} {v : List Int} (hn : 2 ≤ n) (ha : a < 2 ^ n) (hm : m < 2 ^ n) (hv : v.Nodup) (hr : ∀ x ∈ v, 0 ≤ x ∧ x < n) (h : ∀ x : Nat, x < n → ((x : Int) ∈ v ↔ m.testBit x = true)) : (tonesL n a).Perm v ↔ a = m := by
  rw [List.perm_ext_iff_of_nodup (tones_nodup n a) hv]
  constructor
  · intro hp
    refine bits_ext ha hm (fun i hi => ?_)
    have h1 := hp (i : Int)
    rw [h i hi, tonesL_mem] at h1
    rw [Bool.eq_iff_iff]
    constructor
    · intro hb; exact h1.1 ⟨i, rfl, hi, hb⟩
    · intro hb
      obtain ⟨y, e, _, hy⟩ := h1.2 hb
      have : y = i := by omega
      rwa [this] at hy
  · rintro rfl x
    rw [tonesL_mem]
    constructor
    · rintro ⟨y, rfl, hy, hb⟩; exact (h y hy).2 hb
    · intro hx
      have := hr x hx
      obtain ⟨y, rfl⟩ : ∃ y : Nat, x = y := ⟨x.toNat, by omega⟩
      exact ⟨y, rfl, by omega, (h y (by omega)).1 hx⟩
theorem moveN_lt9 {n c k : Nat} (hn : 2 ≤ n) : moveN n c k < 2 ^ n := by
  unfold moveN
  exact Nat.lt_of_le_of_lt Nat.and_le_right (by have := Nat.two_pow_pos n; omega)
/-- the nearest image costs nothing just where the one chord is an image of the other one -/
theorem near_img {n a b : Nat} (hn : 2 ≤ n) (ha : a < 2 ^ n) (hb : b < 2 ^ n) (h : TwoN n (tonesL n a) (tonesL n b)) : ∃ w d, nearV n (tonesL n a) (tonesL n b) = some (w, d) ∧ (d = 0 ↔ IsImg n b a) := by
  obtain ⟨q, k, d, hq, hk, h1, h2, hmin⟩ := near_spec h
  have p0 : ∀ j, j < n → ((tonesL n a).Perm (imgV n (tonesL n b) 0 j) ↔ a = moveN n b j) := fun j hj => perm_bits hn ha (moveN_lt9 hn) (img_nodup hn) (fun x hx => img_range hn hx) (fun x hx => mem_img0 hb hj hx)
  have p1 : ∀ j, j < n → ((tonesL n a).Perm (imgV n (tonesL n b) 1 j) ↔ a = moveN n (turnN n b) j) := fun j hj => perm_bits hn ha (moveN_lt9 hn) (img_nodup hn) (fun x hx => img_range hn hx) (fun x hx => mem_img1 hb hj hx)
  refine ⟨_, d, h1, ?_⟩
  constructor
  · intro hd
    have hz := (cost_zero (img_two h q k)).1 (by rw [← h2]; exact hd)
    have hq2 : q = 0 ∨ q = 1 := by omega
    rcases hq2 with rfl | rfl
    · exact ⟨k, hk, .inl ((p0 k hk).1 hz)⟩
    · exact ⟨k, hk, .inr ((p1 k hk).1 hz)⟩
  · rintro ⟨j, hj, h3 | h3⟩
    · have hz := (cost_zero (img_two h 0 j)).2 ((p0 j hj).2 h3)
      have := hmin 0 j (by omega) hj
      have h4 := cost_nonneg (img_two h q k)
      omega
    · have hz := (cost_zero (img_two h 1 j)).2 ((p1 j hj).2 h3)
      have := hmin 1 j (by omega) hj
      have h4 := cost_nonneg (img_two h q k)
      omega

end Go.Proofs.YtfpnojcbhbkfaaaDoor.P
namespace Go.Proofs.YtfpnojcbhbkfaaaDoor.P
open Go.RowKit Go.Proofs.YtfpnojcbhbkfaaaDoorW.PrintWords Go.Proofs.YtfpnojcbhbkfaaaDoorW.PrintLast Go.Proofs.YtfpnojcbhbkfaaaDoorW.PrintMore
attribute [local go_sem] max2_int min2_int max_two min_two max_three min_three max_four min_four   -- for this text's walks alone
set_option linter.unusedVariables false
set_option linter.unusedSimpArgs false

theorem leads_f : sackbuttop_leads.f = some true := by
  have h : TwoN 12 [0] [11] := by decide
  have e : voices_Cost.f 12 [0] [11] = some (1, 0) := by
    unfold voices_Cost.f
    rw [if_pos h]
    have : bestV 12 [0] [11] = (some [0], 1) := by decide
    rw [this]
  unfold sackbuttop_leads.f
  rw [e]
  rfl
theorem tones_loop {n c : Nat} (hn : n ≤ 24) (hc : c < 2 ^ n) : ∀ (m i : Nat), i + m = n → Ev (fun k => sackbuttop_tones.l0 k (c : Int) (((List.range i).filter fun x => c.testBit x).map Int.ofNat) (n : Int) (i : Int)) (tonesL n c) := by
  intro m
  induction m with
  | zero =>
    intro i hi
    have : i = n := by omega
    subst this
    refine Ev.succ ?_
    simp only [sackbuttop_tones.l0, if_neg (show ¬ (i : Int) < (i : Int) by omega)]
    exact Ev.some _
  | succ m ih =>
    intro i hi
    have go := ih (i + 1) (by omega)
    rw [List.range_succ, List.filter_append, List.map_append] at go
    have hlen : (((List.range i).filter fun x => c.testBit x).map Int.ofNat).length < 17592186044416 := by
      rw [List.length_map]
      have := List.length_filter_le (fun x => c.testBit x) (List.range i)
      rw [List.length_range] at this
      omega
    have hw : wrap64 ((i : Int) + 1) = ((i + 1 : Nat) : Int) := by rw [wrap_id (by omega) (by omega)]; omega
    have hbit := bit_i64 (a := c) (x := i) (Nat.lt_of_lt_of_le hc (Nat.pow_le_pow_right (by omega) (by omega))) (by omega)
    refine Ev.succ ?_
    simp only [sackbuttop_tones.l0, if_pos (show (i : Int) < (n : Int) by omega), if_pos (show (0 : Int) ≤ (i : Int) by omega), hbit, if_pos hlen, hw]
    cases hb : c.testBit i with
    | true =>
      simp only [if_true]
      have e : ((List.range i).filter fun x => c.testBit x).map Int.ofNat ++ ([i].filter fun x => c.testBit x).map Int.ofNat = ((List.range i).filter fun x => c.testBit x).map Int.ofNat ++ [(i : Int)] := by simp [hb]
      rw [e] at go
      exact go
    | false =>
      simp only [Bool.false_eq_true, if_false, if_neg (show ¬ (0 : Int) = 1 by decide)]
      have e : ((List.range i).filter fun x => c.testBit x).map Int.ofNat ++ ([i].filter fun x => c.testBit x).map Int.ofNat = ((List.range i).filter fun x => c.testBit x).map Int.ofNat := by simp [hb]
      rw [e] at go
      exact go
theorem tones_ev {n c : Nat} (hn : n ≤ 24) (hc : c < 2 ^ n) : Ev (fun k => sackbuttop_tones.f k (n : Int) (c : Int)) (tonesL n c) := tones_loop hn hc n 0 (by omega)
theorem tones_size (n c : Nat) : (tonesL n c).length = chSize n c := by
  unfold tonesL chSize
  rw [List.length_map, cnt_eq, List.countP_eq_length_filter]
theorem tones_voi {n c : Nat} (hn : 2 ≤ n) (hn2 : n ≤ 16) (h1 : 1 ≤ chSize n c) (h6 : chSize n c ≤ 6) : VoiN n (tonesL n c) := ⟨by omega, by omega, by rw [tones_size]; exact h1, by rw [tones_size]; exact h6, fun x hx => by
  obtain ⟨y, rfl, hy, _⟩ := tonesL_mem.1 hx
  omega⟩
theorem pri_img {n a b : Nat} (hn : 1 ≤ n) (ha : a < 2 ^ n) (hb : b < 2 ^ n) : priI n a = priI n b ↔ IsImg n b a := by
  obtain ⟨p, ep, hp, hpm⟩ := priI_spec hn ha
  obtain ⟨q, eq, hq, hqm⟩ := priI_spec hn hb
  rw [ep, eq]
  constructor
  · intro h
    have : p = q := by omega
    subst this
    exact hq.trans hb (hp.symm ha)
  · intro h
    have h1 := hpm q ((h.symm hb).trans ha hq)
    have h2 := hqm p (h.trans hb hp)
    omega
theorem TopNear : sackbuttop_TopNear.Pure := by
  intro n0 a0 b0 _ _ _
  refine Ev.rounds (g := fun q => sackbuttop_TopNear.f q n0 a0 b0) ?_
  unfold sackbuttop_TopNear.f
  by_cases hA : ValidC n0 a0
  · by_cases hB : ValidC n0 b0
    · obtain ⟨n, a, rfl, rfl, h2, h16, ha⟩ := validC_nat hA
      obtain ⟨b, rfl⟩ : ∃ b : Nat, b0 = (b : Int) := ⟨b0.toNat, by have := hB.2.2.1; omega⟩
      have hb : b < 2 ^ n := by
        have := hB.2.2.2
        rw [Int.toNat_natCast, ← pow_cast] at this
        omega
      have hpa := Prime_ev (n : Int) (a : Int)
      have hpb := Prime_ev (n : Int) (b : Int)
      rw [if_pos hA, Int.toNat_natCast, Int.toNat_natCast] at hpa
      rw [if_pos hB, Int.toNat_natCast, Int.toNat_natCast] at hpb
      refine Ev.bind hpa ?_
      refine Ev.bind hpb ?_
      simp only [if_true]
      refine Ev.bind_some (refValid_f _ _) ?_
      simp only [hA, decide_true, if_true]
      refine Ev.bind_some (refValid_f _ _) ?_
      simp only [hB, decide_true, Bool.not_true]
      refine Ev.succ ?_
      simp only [sackbuttop_TopNear.j0, Bool.false_eq_true, if_false]
      refine Ev.bind (Size_ev (by omega) ha) ?_
      refine Ev.bind (Size_ev (by omega) hb) ?_
      have yes : Ev (fun k => sackbuttop_TopNear.j1 k (n : Int) (a : Int) (b : Int) (priI n a) (priI n b) true) true := by
        refine Ev.succ ?_
        simp only [sackbuttop_TopNear.j1, if_true]
        exact Ev.bind_some leads_f (Ev.some _)
      refine Ev.ite (fun es => ?_) (fun _ => yes)
      refine Ev.ite (fun _ => yes) (fun e1 => ?_)
      by_cases e4 : (chSize n a : Int) > 4
      · rw [decide_eq_true e4]; exact yes
      · rw [decide_eq_false e4]
        have hva := tones_voi (c := a) h2 h16 (by omega) (by omega)
        have hvb := tones_voi (c := b) h2 h16 (by omega) (by omega)
        have htw : TwoN n (tonesL n a) (tonesL n b) := ⟨hva, hvb, by rw [tones_size, tones_size]; omega⟩
        obtain ⟨w, d, hw, hd⟩ := near_img h2 ha hb htw
        have hN : voices_Near.f (n : Int) (tonesL n a) (tonesL n b) = some (w, d, 0) := by unfold voices_Near.f; rw [if_pos htw, hw]; rfl
        refine Ev.succ ?_
        simp only [sackbuttop_TopNear.j1, Bool.false_eq_true, if_false]
        refine Ev.bind (tones_ev (by omega) ha) ?_
        refine Ev.bind (tones_ev (by omega) hb) ?_
        refine Ev.bind_some hN ?_
        simp only [if_true]
        have hq : ((d == 0) == (priI n a == priI n b)) = true := by
          have h3 := pri_img (a := a) (b := b) (by omega) ha hb
          by_cases hi : IsImg n b a
          · rw [beq_iff_eq.2 (hd.2 hi), beq_iff_eq.2 (h3.2 hi)]; rfl
          · rw [beq_eq_false_iff_ne.2 (fun h => hi (hd.1 h)), beq_eq_false_iff_ne.2 (fun h => hi (h3.1 h))]; rfl
        rw [hq]
        simp only [if_true]
        exact Ev.bind_some leads_f (Ev.some _)
    · have hpa := Prime_ev n0 a0
      have hpb := Prime_ev n0 b0
      rw [if_pos hA] at hpa
      rw [if_neg hB] at hpb
      refine Ev.bind hpa ?_
      refine Ev.bind hpb ?_
      simp only [if_true, if_neg (show ¬ (2 : Int) = 0 by decide)]
      refine Ev.succ ?_
      simp only [sackbuttop_TopNear.j0, if_true, if_neg (show ¬ (0 : Int) = 2 by decide)]
      exact Ev.bind_some leads_f (Ev.some _)
  · have hpa := Prime_ev n0 a0
    rw [if_neg hA] at hpa
    refine Ev.bind hpa ?_
    by_cases hB : ValidC n0 b0
    · have hpb := Prime_ev n0 b0
      rw [if_pos hB] at hpb
      refine Ev.bind hpb ?_
      simp only [if_neg (show ¬ (2 : Int) = 0 by decide)]
      refine Ev.succ ?_
      simp only [sackbuttop_TopNear.j0, if_true]
      exact Ev.bind_some leads_f (Ev.some _)
    · have hpb := Prime_ev n0 b0
      rw [if_neg hB] at hpb
      refine Ev.bind hpb ?_
      simp only [if_neg (show ¬ (2 : Int) = 0 by decide)]
      refine Ev.succ ?_
      simp only [sackbuttop_TopNear.j0, if_true]
      exact Ev.bind_some leads_f (Ev.some _)

end Go.Proofs.YtfpnojcbhbkfaaaDoor.P
namespace Go.Proofs.YtfpnojcbhbkfaaaDoor.Pure
theorem TopNear : Go.Proofs.YtfpnojcbhbkfaaaDoor.P.sackbuttop_TopNear.Pure := Go.Proofs.YtfpnojcbhbkfaaaDoor.P.TopNear
end Go.Proofs.YtfpnojcbhbkfaaaDoor.Pure
namespace Go.Proofs.YtfpnojcbhbkfaaaDoor.P
open Go.RowKit Go.Proofs.YtfpnojcbhbkfaaaDoorW.PrintWords Go.Proofs.YtfpnojcbhbkfaaaDoorW.PrintLast Go.Proofs.YtfpnojcbhbkfaaaDoorW.PrintMore
attribute [local go_sem] max2_int min2_int max_two min_two max_three min_three max_four min_four   -- for this text's walks alone
set_option linter.unusedVariables false
set_option linter.unusedSimpArgs false

open Go.ChangeShapes Go.WideShapes Go.ChangeAt Go.WideElems
/-! what the row's listed tables give the walks -/
def doorLaid2 : List (String × DataW Unit) := [("math/bits.deBruijn32tab", Rows.laid_math_bits_deBruijn32tab), ("math/bits.deBruijn64tab", Rows.laid_math_bits_deBruijn64tab)]
theorem door_g64 : Tryd.prog.globalNamed "math/bits.deBruijn64tab" = some 1 := by kernel_rfl
theorem door_t64 : (Tryd.prog.globals[1]?).map (·.type) = some 135 := by kernel_rfl
theorem door_met (os : Os) (args : Array Value) : laidMetH Tryd.prog doorLaid2 ((World.doorLaid Tryd.prog 19 os).forCall (fun _ _ => 0) ⟨#[], args, []⟩).memory :=
  laidMetH_of_parts3 (fuel := 8) (laidMet_of_run' 8 (by kernel_rfl) (by kernel_rfl)) (by kernel_rfl) (by kernel_rfl)
theorem door_tab : (Rows.laid_math_bits_deBruijn64tab : DataW Unit) = .agg (tzTab.map fun (n : Nat) => .lit (.int .u8 (n : Int))) := rfl
theorem door_c8 : Tryd.prog.cellsOf 5 = 1 := by kernel_rfl
theorem tabs_of_laid {W : World} (h : laidMetH Tryd.prog doorLaid2 W) : Tabs W := by
  rw [MakeChecks.laidMetH_plain _ _ _ (by kernel_rfl)] at h
  obtain ⟨ps, ⟨g0, t0, cs0, f0, p0, q0, hg0, ht0, hv0, hd0, ⟨g1, t1, cs1, f1, p1, q1, hg1, ht1, hv1, hd1, _, _⟩, _⟩, _, _⟩ := h
  obtain rfl := Option.some.inj (door_g64.symm.trans hg1)
  obtain rfl := Option.some.inj (door_t64.symm.trans ht1)
  obtain ⟨xs, m1, rfl, hx1, hlen, hn, hel⟩ := DataW.trod_array Tryd.underlying135 hd1
  simp only [Prod.mk.injEq] at hx1
  have hl := hx1.1
  rw [door_tab] at hl
  simp only [DataW.agg.injEq] at hl
  intro i hi
  have h0 := hel i hi
  obtain ⟨x, hx⟩ : ∃ x, xs[i]? = some x := ⟨xs[i], by simp [hn, hi]⟩
  rw [hx] at h0
  obtain ⟨k, e1, e2, _⟩ := DataW.trod_int Tryd.underlying5 h0
  have hk := congrArg (fun l => l[i]?) hl
  simp only [List.getElem?_map, hx, Option.map_some, e2] at hk
  have ht : tzTab[i]? = some (tzTab.getD i 0) := by
    rw [List.getD_eq_getElem?_getD]
    have hlen : tzTab.length = 64 := by decide
    rw [List.getElem?_eq_getElem (by omega)]; rfl
  rw [ht] at hk
  simp only [Option.map_some, Option.some.injEq, DataW.lit.injEq, Lit.int.injEq, true_and] at hk
  rw [door_c8, Nat.mul_one] at e1
  have hc := World.var?_cell hg1 hv1 i
  rw [hc]
  have : cs1.toList[i]? = some (.int .u8 k) := by
    have := congrArg (fun l => l[0]?) e1
    simpa using this
  rw [← Array.getElem?_toList, this, hk]

end Go.Proofs.YtfpnojcbhbkfaaaDoor.P
namespace Go.Proofs.YtfpnojcbhbkfaaaDoor.topNear
open Go.ChangeShapes Go.WideShapes Go.ChangeAt Go.RowKit
open Go.ChangeMaps (open_string shut_string)
set_option linter.unusedVariables false
theorem own : ownKnob Tryd.prog.godebug = none := by kernel_rfl
set_option maxRecDepth 100000 in
theorem lifted (os : Os) (started : os.Started) (H : Type) (enc : TypeId × Value → H) :
    ReturnsInHanded {} Tryd.checked os 7 .any (fun w args => (Rows.topNearSpec.pre enc Tryd.prog Tryd.f7 [] false w args ∧ laidMetH Tryd.prog P.doorLaid2 w) ∧ sizedMet enc Tryd.prog Tryd.f7 (OpenSpec.ofChange Rows.topNearSpec) false w args) (Rows.topNearSpec.post enc Tryd.prog Tryd.f7 false true false false) := by
  refine returnsInHanded_of_change_and (C := Tryd.checked) (X := fun w _ => laidMetH Tryd.prog P.doorLaid2 w) (fun _ _ _ hh h => h.of_heap hh) own started (by kernel_rfl) Tryd.func7
    (ChangeSpec.witness_shaped (enc := enc) (C := Tryd.checked) (os := os) (X := fun w _ => laidMetH Tryd.prog P.doorLaid2 w) false (World.doorLaid Tryd.prog 19 os) #[.int .i64 0, .int .i64 0, .int .i64 0] 8 rfl (World.shaped_of_RefB (by kernel_rfl) (by kernel_rfl)) (by kernel_rfl) (by kernel_rfl) (by kernel_rfl) (P.door_met os _)) ?_
  intro W base args ds gs before hval0 hW hcnd hsz0 hL _
  have hsz : (DataW.weightsEach Tryd.prog (Tryd.f7.params.toList ++ Rows.topNearSpec.plain.varTypes Tryd.prog) (ds ++ gs)).all (· ≤ reachBytes) = true := hsz0
  have hval : ∀ (j : Nat) t v, Tryd.f7.params[j]? = some t → args[j]? = some v → Value.okWide Tryd.prog W .any base t v := hval0
  have hW' := hW
  obtain ⟨p, q, hA0, hV, rfl, hfz, hnd⟩ := hW
  have hA : DataW.TrodAll enc Tryd.prog W 0 (fun _ => true) true Tryd.f7.params.toList args.toList ds p := hA0
  rw [Tryd.params7] at hA hval hsz
  obtain ⟨v0, vs0, d0, ds0, p0, q0, hargs, rfl, rfl, h0, r0⟩ := trodAll_cons hA
  obtain ⟨v1, vs1, d1, ds1, p1, q1, rfl, rfl, rfl, h1, r1⟩ := trodAll_cons r0
  obtain ⟨v2, vs2, d2, ds2, p2, q2, rfl, rfl, rfl, h2, r2⟩ := trodAll_cons r1
  obtain ⟨rfl, rfl, rfl⟩ := trodAll_nil r2
  obtain rfl : args = #[v0, v1, v2] := by cases args; simp_all
  obtain ⟨rfl, rfl⟩ := trodVars_none hV
  obtain ⟨a0, rfl, rfl, rfl, w0⟩ := open_int Tryd.underlying3 (hval 0 3 v0 rfl rfl) h0
  obtain ⟨a1, rfl, rfl, rfl, w1⟩ := open_int Tryd.underlying3 (hval 1 3 v1 rfl rfl) h1
  obtain ⟨a2, rfl, rfl, rfl, w2⟩ := open_int Tryd.underlying3 (hval 2 3 v2 rfl rfl) h2
  clear hA0 hval0 hsz0 hsz
  refine (P.sackbuttop_TopNear.walk Pure.TopNear a0 a1 a2 W (P.tabs_of_laid hL) w0 w1 w2).mono fun e W' ⟨he, bel⟩ => ?_
  subst he
  exact ⟨_, rfl, _, _, _, [], _, [], hW', trodAll_mk1 (shut_bool Tryd.underlying4 _), (trodAll_cons_mk (shut_int Tryd.underlying3 w0) (trodAll_cons_mk (shut_int Tryd.underlying3 w1) (trodAll_cons_mk (shut_int Tryd.underlying3 w2) trodAll_mk0))), rfl, bel.frame _, fun h => by cases h⟩
theorem over : Rows.topNearRow.holds Tryd.pinned (OpenSpec.ofChange Rows.topNearSpec) :=
  OpenClaim.holds_of_wide 7 Tryd.f7 rfl rfl rfl rfl rfl rfl rfl ⟨rfl, rfl, rfl, rfl, rfl⟩ rfl rfl rfl rfl rfl (by kernel_rfl) Tryd.func7 (by kernel_rfl)
    (of_decide_eq_true (by kernel_rfl)) (by unfold Func.isWrapper; first | (rw [if_pos (by decide +kernel)]; kernel_rfl) | (rw [if_neg (by decide +kernel)]; exact ⟨rfl, rfl⟩))
    (fun os started H enc _ => lifted os started H enc)
theorem proved : Rows.TopNearSaid := over
#print axioms proved
end Go.Proofs.YtfpnojcbhbkfaaaDoor.topNear
namespace Go.Proofs.YtfpnojcbhbkfaaaDoor
theorem topNear_row : Rows.TopNearSaid := topNear.proved
/-- The tied card, for the claim. -/
theorem topNear_holds : Rows.TopNearCardSaid :=
  Claim7.holds_tied_plain_at .later [] [.data, .data] true (true, "497fa162678a0729af37f63795fa21e285c2430cc1eb41f0044b46e86bdcb108") false
    topNear_row (fun _ h => by cases h) (by kernel_rfl) (fun _ h => by cases h) topNear_row_tie rfl ⟨rfl, rfl⟩ (by kernel_rfl) rfl
    (fun f fn hf hfn => by
      obtain rfl : f = 7 := Option.some.inj ((show Tryd.prog.funcNamed "sackbut/sackbuttop.TopNear" = some 7 by kernel_rfl).symm.trans hf) |>.symm
      obtain rfl : fn = Tryd.f7 := (Option.some.inj (Tryd.func7.symm.trans hfn)).symm
      exact ⟨by kernel_rfl, fun j t ht => by
        rw [Tryd.params7] at ht
        have hm : t ∈ [3, 3, 3] := by simpa using Array.mem_of_getElem? ht
        have hall : ([3, 3, 3].all fun u => !Tryd.prog.wantsStandIn u) = true := by kernel_rfl
        exact (show Tryd.prog.wantsStandIn t = false by simpa using List.all_eq_true.1 hall t hm)⟩)
    (by kernel_rfl)
end Go.Proofs.YtfpnojcbhbkfaaaDoor
