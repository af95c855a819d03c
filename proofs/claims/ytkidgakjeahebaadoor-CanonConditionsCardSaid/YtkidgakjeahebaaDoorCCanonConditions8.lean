/- Proved here: the Go function sackbutlaw02.CanonConditions returns true for every input (its printed form comes to true), whatever its arguments. Conditions: none beyond the row's own reach in memory. -/
import Derived.LaidMore
import Derived.Stop.Joined
import Derived.ProofKit
import Derived.OpenShut
import Derived.Test.YtkidgakjeahebaaDoorRows
import Derived.WalkKit
import Derived.ShutString
import Derived.ChangeOld
import Derived.Below
import Derived.SizedLaws
import Derived.SevenTiedAt
import Derived.Test.YtkidgakjeahebaaDoorCards
import Derived.Test.YtkidgakjeahebaaDoorTie
import Derived.Test.YtkidgakjeahebaaDoorCCanonConditions1
import Derived.Test.YtkidgakjeahebaaDoorCCanonConditions2
import Derived.Test.YtkidgakjeahebaaDoorCCanonConditions3
import Derived.Test.YtkidgakjeahebaaDoorCCanonConditions5
import Derived.Test.YtkidgakjeahebaaDoorCCanonConditions6
import Derived.Test.YtkidgakjeahebaaDoorCCanonConditions7
namespace Go.Proofs.YtkidgakjeahebaaDoor.P
open Go.RowKit Go.Proofs.YtkidgakjeahebaaDoorW.PrintWords Go.Proofs.YtkidgakjeahebaaDoorW.PrintLast Go.Proofs.YtkidgakjeahebaaDoorW.PrintMore
attribute [local go_sem] max2_int min2_int max_two min_two max_three min_three max_four min_four   -- for this text's walks alone
set_option linter.unusedVariables false
set_option linter.unusedSimpArgs false

/-! a rhythm has a partner just where the two conditions hold, and then the one that they give is one
-/
def ppN (n : Nat) : List Nat := (List.range' 2 (n - 1)).filter fun s => decide (n % s = 0) && decide (prN s ≠ 0)
theorem ppN_mem {n s : Nat} : s ∈ ppN n ↔ 2 ≤ s ∧ s ≤ n ∧ n % s = 0 ∧ prN s ≠ 0 := by
  unfold ppN
  rw [List.mem_filter, List.mem_range'_1, Bool.and_eq_true, decide_eq_true_eq, decide_eq_true_eq]
  constructor
  · rintro ⟨⟨h1, h2⟩, h3, h4⟩; exact ⟨h1, by omega, h3, h4⟩
  · rintro ⟨h1, h2, h3, h4⟩; exact ⟨⟨h1, by omega⟩, h3, h4⟩
/-! how many beats are alike by s -/
def nR (s n a r : Nat) : Int := tot n a (fun k => if k % s = r % s then 1 else 0)
theorem pp_tab1 : ((List.range' 2 23).all fun s => decide (prN s = 0) || (decide (2 ≤ prN s) && decide (s / prN s * prN s = s) && (List.range s).all fun k => (List.range s).all fun r =>
    decide ((s : Int) * ((if k % s = r % s then 1 else 0) - (if k % s = (r + s / prN s) % s then 1 else 0)) = cS s (k + (s - r)) - cS s (k + (2 * s - r - s / prN s))) &&
    decide ((if k % (s / prN s) = r % (s / prN s) then (1 : Int) else 0) = upto (fun i => if k % s = (r + i * (s / prN s)) % s then 1 else 0) (prN s)))) = true := by kernel_rfl
theorem pp_facts {s : Nat} (h2 : 2 ≤ s) (h24 : s ≤ 24) (hp : prN s ≠ 0) : 2 ≤ prN s ∧ s / prN s * prN s = s ∧ ∀ k, k < s → ∀ r, r < s →
    (s : Int) * ((if k % s = r % s then 1 else 0) - (if k % s = (r + s / prN s) % s then 1 else 0)) = cS s (k + (s - r)) - cS s (k + (2 * s - r - s / prN s)) ∧
    (if k % (s / prN s) = r % (s / prN s) then (1 : Int) else 0) = upto (fun i => if k % s = (r + i * (s / prN s)) % s then 1 else 0) (prN s) := by
  have h := List.all_eq_true.1 pp_tab1 s (List.mem_range'_1.2 ⟨h2, by omega⟩)
  rw [decide_eq_false hp, Bool.false_or, Bool.and_eq_true, Bool.and_eq_true, decide_eq_true_eq, decide_eq_true_eq] at h
  refine ⟨h.1.1, h.1.2, fun k hk r hr => ?_⟩
  have h3 := List.all_eq_true.1 (List.all_eq_true.1 h.2 k (List.mem_range.2 hk)) r (List.mem_range.2 hr)
  rw [Bool.and_eq_true, decide_eq_true_eq, decide_eq_true_eq] at h3
  exact h3
theorem tot_add {n a : Nat} (f g : Nat → Int) : tot n a (fun k => f k - g k) = tot n a f - tot n a g := by
  unfold tot
  induction n with
  | zero => rfl
  | succ n ih => rw [upto, upto, upto, ih]; split <;> (try dsimp only) <;> omega
theorem tot_mul {n a : Nat} (c : Int) (f : Nat → Int) : tot n a (fun k => c * f k) = c * tot n a f := by
  unfold tot
  rw [← upto_mul]
  exact upto_congr (fun k _ => by split <;> simp)
theorem nR_mod (s n a r : Nat) : nR s n a (r % s) = nR s n a r := by unfold nR; simp only [Nat.mod_mod]
theorem nR_root0 {s n a : Nat} (h2 : 2 ≤ s) (h24 : s ≤ 24) (hp : prN s ≠ 0) (hz : zr s n a) {r : Nat} (hr : r < s) : nR s n a r = nR s n a (r + s / prN s) := by
  obtain ⟨_, _, hf⟩ := pp_facts h2 h24 hp
  have e : tot n a (fun k => (s : Int) * ((if k % s = r % s then 1 else 0) - (if k % s = (r + s / prN s) % s then 1 else 0))) = tot n a (fun k => cS s (k + (s - r)) - cS s (k + (2 * s - r - s / prN s))) := tot_congr (fun k _ => by
    have := (hf (k % s) (Nat.mod_lt _ (by omega)) r hr).1
    rw [Nat.mod_mod] at this
    rw [this, ← cS_mod s (k + (s - r)), ← cS_mod s (k + (2 * s - r - s / prN s)), ← cS_mod s (k % s + (s - r)), ← cS_mod s (k % s + (2 * s - r - s / prN s)), Nat.mod_add_mod, Nat.mod_add_mod])
  rw [tot_add, hz, hz, tot_mul, tot_add] at e
  have h3 := (Int.mul_eq_zero.1 (show (s : Int) * (tot n a (fun k => if k % s = r % s then 1 else 0) - tot n a (fun k => if k % s = (r + s / prN s) % s then 1 else 0)) = 0 by rw [e]; rfl)).resolve_left (by omega)
  unfold nR
  omega
theorem nR_root {s n a : Nat} (h2 : 2 ≤ s) (h24 : s ≤ 24) (hp : prN s ≠ 0) (hz : zr s n a) (r : Nat) : ∀ i, nR s n a (r + i * (s / prN s)) = nR s n a r
  | 0 => by rw [Nat.zero_mul, Nat.add_zero]
  | i + 1 => by
    rw [← nR_root h2 h24 hp hz r i, ← nR_mod s n a (r + i * (s / prN s)), nR_root0 h2 h24 hp hz (Nat.mod_lt _ (by omega)), ← nR_mod s n a ((r + i * (s / prN s)) % s + s / prN s), Nat.mod_add_mod, nR_mod, Nat.succ_mul, Nat.add_assoc]
theorem nR_down {s n a : Nat} (h2 : 2 ≤ s) (h24 : s ≤ 24) (hp : prN s ≠ 0) (r : Nat) : nR (s / prN s) n a r = upto (fun i => nR s n a (r + i * (s / prN s))) (prN s) := by
  obtain ⟨_, ht, hf⟩ := pp_facts h2 h24 hp
  have hdv : s / prN s ∣ s := ⟨prN s, ht.symm⟩
  unfold nR
  have e : tot n a (fun k => if k % (s / prN s) = r % (s / prN s) then (1 : Int) else 0) = tot n a (fun k => upto (fun i => (1 : Int) * if k % s = (r + i * (s / prN s)) % s then 1 else 0) (prN s)) := tot_congr (fun k _ => by
    have := (hf (k % s) (Nat.mod_lt _ (by omega)) (r % s) (Nat.mod_lt _ (by omega))).2
    rw [Nat.mod_mod, Nat.mod_mod_of_dvd _ hdv, Nat.mod_mod_of_dvd _ hdv] at this
    rw [this]
    exact upto_congr (fun i _ => by rw [Nat.mod_add_mod, Int.one_mul]))
  rw [e, tot_lin (fun i k => if k % s = (r + i * (s / prN s)) % s then 1 else 0) (fun _ => 1)]
  exact upto_congr (fun i _ => Int.one_mul _)
theorem upto_dvd {f : Nat → Int} {c : Int} : ∀ n : Nat, (∀ i, c ∣ f i) → c ∣ upto f n
  | 0, _ => ⟨0, by simp [upto]⟩
  | n + 1, h => by rw [upto]; exact Int.dvd_add (upto_dvd n h) (h n)
theorem nR_chain {n a p : Nat} (f : Nat → Bool) (hf : ∀ s, f s = true → zr s n a) : ∀ (k c : Nat), (∀ j, j < k → prN (p ^ (j + 1)) = p ∧ 2 ≤ p ^ (j + 1) ∧ p ^ (j + 1) ≤ 24) → (∀ r, ((p ^ c : Nat) : Int) ∣ nR (p ^ k) n a r) → ((p ^ (c + (List.range k).countP (fun j => f (p ^ (j + 1)))) : Nat) : Int) ∣ nR 1 n a 0
  | 0, c, _, h => by simpa using h 0
  | k + 1, c, hk, h => by
    obtain ⟨k1, k2, k3⟩ := hk k (by omega)
    have hp0 : prN (p ^ (k + 1)) ≠ 0 := by
      obtain ⟨q, _⟩ := pp_facts k2 k3 (by rw [k1]; intro e; rw [e] at k2; simp at k2)
      omega
    have hq : p ^ (k + 1) / prN (p ^ (k + 1)) = p ^ k := by
      rw [k1, Nat.pow_succ, Nat.mul_div_cancel _ (by rw [k1] at hp0; omega)]
    have hd := fun r => nR_down (n := n) (a := a) k2 k3 hp0 r
    rw [hq, k1] at hd
    rw [List.range_succ, List.countP_append, List.countP_singleton]
    by_cases hr : f (p ^ (k + 1)) = true
    · rw [hr, if_pos rfl]
      have := nR_chain f hf k (c + 1) (fun j hj => hk j (by omega)) (fun r => by
        have he := fun i => nR_root k2 k3 hp0 (hf _ hr) r i
        rw [hq] at he
        rw [hd r]
        simp only [he]
        rw [upto_const, Nat.pow_succ, Nat.mul_comm, Int.natCast_mul]
        exact Int.mul_dvd_mul (Int.dvd_refl _) (h r))
      rw [show c + ((List.range k).countP (fun j => f (p ^ (j + 1))) + 1) = c + 1 + (List.range k).countP (fun j => f (p ^ (j + 1))) by omega]
      exact this
    · rw [if_neg hr]
      have := nR_chain f hf k c (fun j hj => hk j (by omega)) (fun r => by rw [hd r]; exact upto_dvd _ (fun i => h _))
      simpa using this
theorem nR_one {n a : Nat} : nR 1 n a 0 = (chSize n a : Int) := by
  unfold nR tot
  rw [chSize_cnt]
  induction n with
  | zero => rw [cnt_zero]; rfl
  | succ n ih =>
    rw [upto, ih, cnt_succ]
    simp only [Nat.mod_one, if_true]
    split <;> simp
def kP (n p : Nat) : Nat := ((ppN n).filter fun s => decide (prN s = p)).length
theorem kP_tab : ((List.range' 2 23).all fun n => primes23.all fun p => decide (((ppN n).filter fun s => decide (prN s = p)) = (List.range (kP n p)).map (fun j => p ^ (j + 1))) && (List.range (kP n p)).all fun j => decide (prN (p ^ (j + 1)) = p) && decide (2 ≤ p ^ (j + 1)) && decide (p ^ (j + 1) ≤ 24)) = true := by kernel_rfl
theorem pp_dvd {n a p : Nat} (h2 : 2 ≤ n) (h24 : n ≤ 24) (hp : p ∈ primes23) (f : Nat → Bool) (hf : ∀ s, f s = true → zr s n a) : p ^ (((ppN n).filter f).countP (fun s => decide (prN s = p))) ∣ chSize n a := by
  have h := List.all_eq_true.1 (List.all_eq_true.1 kP_tab n (List.mem_range'_1.2 ⟨h2, by omega⟩)) p hp
  rw [Bool.and_eq_true, decide_eq_true_eq, List.all_eq_true] at h
  obtain ⟨e, hk⟩ := h
  have hc := nR_chain (p := p) f hf (kP n p) 0 (fun j hj => by
    have := hk j (List.mem_range.2 hj)
    simp only [Bool.and_eq_true, decide_eq_true_eq] at this
    exact ⟨this.1.1, this.1.2, this.2⟩) (fun r => by rw [Nat.pow_zero]; exact Int.one_dvd _)
  rw [nR_one, Nat.zero_add] at hc
  have e2 : ((ppN n).filter f).countP (fun s => decide (prN s = p)) = (List.range (kP n p)).countP (fun j => f (p ^ (j + 1))) := by
    rw [List.countP_filter]
    have : (fun s => decide (prN s = p) && f s) = (fun s => f s && decide (prN s = p)) := by funext s; exact Bool.and_comm _ _
    rw [this, ← List.countP_filter, e, List.countP_map]; rfl
  rw [e2]
  exact Int.natCast_dvd_natCast.1 hc
/-! what a tile's roots are like -/
def prodCnt (ra : List Nat) (x : Nat) : Bool := primes23.all fun p => decide (x % p ^ (ra.countP (fun s => decide (prN s = p))) = 0)
theorem size_tab : ((List.range' 2 23).all fun n => allSub (ppN n) fun ra => allSub (ppN n) fun rb => !(ppN n).all (fun s => decide (s ∈ ra) || decide (s ∈ rb)) ||
    (List.range 25).all fun x => decide (x * (n / x) ≠ n) || !prodCnt ra x || !prodCnt rb (n / x) || (decide (prodP 1 ra = (x : Int)) && (ppN n).all fun s => !(decide (s ∈ ra) && decide (s ∈ rb)))) = true := by kernel_rfl
theorem tile_size {n a b : Nat} (h2 : 2 ≤ n) (h24 : n ≤ 24) (fa fb : Nat → Bool) (ha : ∀ s, fa s = true → zr s n a) (hb : ∀ s, fb s = true → zr s n b) (hab : ∀ s, s ∈ ppN n → fa s = true ∨ fb s = true) (hs : chSize n a * chSize n b = n) :
    prodP 1 ((ppN n).filter fa) = (chSize n a : Int) ∧ ∀ s, s ∈ ppN n → ¬ (fa s = true ∧ fb s = true) := by
  have h := List.all_eq_true.1 size_tab n (List.mem_range'_1.2 ⟨h2, by omega⟩)
  have h := allSub_filter fa _ _ h
  have h := allSub_filter fb _ _ h
  rw [Bool.or_eq_true] at h
  have hxp : 1 ≤ chSize n a := by rcases Nat.eq_zero_or_pos (chSize n a) with e | e; (rw [e, Nat.zero_mul] at hs; omega); exact e
  have hyp : 1 ≤ chSize n b := by rcases Nat.eq_zero_or_pos (chSize n b) with e | e; (rw [e, Nat.mul_zero] at hs; omega); exact e
  have hx : chSize n a ≤ n := by have := Nat.mul_le_mul_left (chSize n a) hyp; omega
  have hy : n / chSize n a = chSize n b := Nat.div_eq_of_eq_mul_right hxp hs.symm
  rcases h with h | h
  · exfalso
    rw [Bool.not_eq_true', List.all_eq_false] at h
    obtain ⟨s, hs1, hs2⟩ := h
    refine hs2 ?_
    rw [Bool.or_eq_true, decide_eq_true_eq, decide_eq_true_eq, List.mem_filter, List.mem_filter]
    rcases hab s hs1 with e | e
    · exact .inl ⟨hs1, e⟩
    · exact .inr ⟨hs1, e⟩
  · have h := List.all_eq_true.1 h (chSize n a) (List.mem_range.2 (by omega))
    rw [hy, decide_eq_false (show ¬ chSize n a * chSize n b ≠ n by omega), Bool.false_or] at h
    have c1 : prodCnt ((ppN n).filter fa) (chSize n a) = true := by
      unfold prodCnt
      rw [List.all_eq_true]
      intro p hp
      exact decide_eq_true (Nat.mod_eq_zero_of_dvd (pp_dvd h2 h24 hp fa ha))
    have c2 : prodCnt ((ppN n).filter fb) (chSize n b) = true := by
      unfold prodCnt
      rw [List.all_eq_true]
      intro p hp
      exact decide_eq_true (Nat.mod_eq_zero_of_dvd (pp_dvd h2 h24 hp fb hb))
    rw [c1, c2, Bool.not_true, Bool.false_or, Bool.false_or, Bool.and_eq_true, decide_eq_true_eq, List.all_eq_true] at h
    refine ⟨h.1, fun s hs1 he => ?_⟩
    have := h.2 s hs1
    rw [decide_eq_true (List.mem_filter.2 ⟨hs1, he.1⟩), decide_eq_true (List.mem_filter.2 ⟨hs1, he.2⟩)] at this
    cases this
theorem isRt_zr' {n a s : Nat} (h24 : n ≤ 24) (hs : s ∈ ppN n) : isRt n a s = true ↔ zr s n a := by
  obtain ⟨h1, h2, h3, _⟩ := ppN_mem.1 hs
  exact isRt_zr (by omega) h2 h24
theorem tile_pp {n a b : Nat} (h2 : 2 ≤ n) (h24 : n ≤ 24) (ha : a < 2 ^ n) (hb : b < 2 ^ n) (a0 : a.testBit 0 = true) (b0 : b.testBit 0 = true) (ht : Tiled n a b) :
    prodP 1 ((ppN n).filter (isRt n a)) = (chSize n a : Int) ∧ ∀ s, s ∈ ppN n → ¬ (zr s n a ∧ zr s n b) := by
  have go := tile_size (n := n) (a := a) (b := b) h2 h24 (fun s => decide (s ∈ ppN n) && isRt n a s) (fun s => decide (s ∈ ppN n) && isRt n b s) (fun s e => by
    rw [Bool.and_eq_true, decide_eq_true_eq] at e
    exact (isRt_zr' h24 e.1).1 e.2) (fun s e => by
    rw [Bool.and_eq_true, decide_eq_true_eq] at e
    exact (isRt_zr' h24 e.1).1 e.2) (fun s hs => by
    obtain ⟨h1, _, h3, _⟩ := ppN_mem.1 hs
    rw [decide_eq_true hs, Bool.true_and, Bool.true_and, isRt_zr' h24 hs, isRt_zr' h24 hs]
    exact div_roots n h2 h24 a b ha hb a0 b0 ht s h1 h3) (tiled_size ha ht)
  refine ⟨?_, fun s hs he => go.2 s hs ?_⟩
  · rw [← go.1]
    congr 1
    exact List.filter_congr (fun s hs => by rw [decide_eq_true hs, Bool.true_and])
  · rw [decide_eq_true hs, Bool.true_and, Bool.true_and, isRt_zr' h24 hs, isRt_zr' h24 hs]
    exact he
theorem pair_tab : ((List.range 25).all fun s => (List.range 25).all fun t => decide (s < 2) || decide (t < 2) || decide (prN s = 0) || decide (prN t = 0) || decide (prN s = prN t) || decide (Nat.gcd s t = 1)) = true := by kernel_rfl
theorem pair_co {s t : Nat} (hs : 2 ≤ s) (hs24 : s ≤ 24) (ht : 2 ≤ t) (ht24 : t ≤ 24) (ps : prN s ≠ 0) (pt : prN t ≠ 0) (hp : prN s ≠ prN t) : Nat.Coprime s t := by
  have h := List.all_eq_true.1 (List.all_eq_true.1 pair_tab s (List.mem_range.2 (by omega))) t (List.mem_range.2 (by omega))
  simp only [Bool.or_eq_true, decide_eq_true_eq] at h
  rcases h with ((((h | h) | h) | h) | h) | h
  · omega
  · omega
  · exact absurd h ps
  · exact absurd h pt
  · exact absurd h hp
  · exact h
/-- **the second condition of a tile** -/
theorem tile_second : ∀ n : Nat, 2 ≤ n → n ≤ 24 → ∀ a b : Nat, a < 2 ^ n → b < 2 ^ n → a.testBit 0 = true → b.testBit 0 = true → Tiled n a b → ∀ s t, s ∈ ppN n → t ∈ ppN n → prN s ≠ prN t → zr s n a → zr t n a → zr (s * t) n a := by
  intro n
  induction n using Nat.strongRecOn with
  | ind n ih =>
    intro h2 h24 a b ha hb a0 b0 ht s t hs hst hp zs zt
    obtain ⟨s1, s2, s3, s4⟩ := ppN_mem.1 hs
    obtain ⟨t1, t2, t3, t4⟩ := ppN_mem.1 hst
    have hco := pair_co s1 (by omega) t1 (by omega) s4 t4 hp
    have hdn : n % (s * t) = 0 := Nat.mod_eq_zero_of_dvd (Nat.Coprime.mul_dvd_of_dvd_of_dvd hco (Nat.dvd_of_mod_eq_zero s3) (Nat.dvd_of_mod_eq_zero t3))
    have hst1 : 1 ≤ s * t := Nat.mul_pos (by omega) (by omega)
    rcases hajos h2 h24 ha hb a0 b0 ht with hpr | hpr
    · obtain ⟨d, hd, h⟩ := perB_iff.1 hpr
      by_cases hds : d % (s * t) = 0
      · have d1 : d % s = 0 := Nat.mod_eq_zero_of_dvd (Nat.dvd_trans ⟨t, rfl⟩ (Nat.dvd_of_mod_eq_zero hds))
        have d2 : d % t = 0 := Nat.mod_eq_zero_of_dvd (Nat.dvd_trans ⟨s, Nat.mul_comm _ _⟩ (Nat.dvd_of_mod_eq_zero hds))
        have l1 := Nat.le_of_dvd h.1 (Nat.dvd_of_mod_eq_zero d1)
        have l2 := Nat.le_of_dvd h.1 (Nat.dvd_of_mod_eq_zero d2)
        have := ih d hd (by omega) (by omega) _ _ (fold_lt a d) (modSet_lt h.1) (fold_bit0 h.1 a0) (modSet_bit.2 ⟨0, by omega, b0, Nat.zero_mod d⟩) (fold_tile ha h ht) s t (ppN_mem.2 ⟨s1, l1, d1, s4⟩) (ppN_mem.2 ⟨t1, l2, d2, t4⟩) hp (zr_fold' ha h d1 zs) (zr_fold' ha h d2 zt)
        exact zr_fold ha h hds this
      · exact zr_per h24 (by omega) ha h hst1 hdn hds
    · obtain ⟨d, hd, h⟩ := perB_iff.1 hpr
      have ht' := tiled_symm ha hb ht
      have hex := (tile_pp h2 h24 ha hb a0 b0 ht).2
      by_cases d1 : d % s = 0
      · by_cases d2 : d % t = 0
        · have hds : d % (s * t) = 0 := Nat.mod_eq_zero_of_dvd (Nat.Coprime.mul_dvd_of_dvd_of_dvd hco (Nat.dvd_of_mod_eq_zero d1) (Nat.dvd_of_mod_eq_zero d2))
          have l1 := Nat.le_of_dvd h.1 (Nat.dvd_of_mod_eq_zero d1)
          have l2 := Nat.le_of_dvd h.1 (Nat.dvd_of_mod_eq_zero d2)
          have hft := fold_tile hb h ht'
          have := ih d hd (by omega) (by omega) _ _ (modSet_lt h.1) (fold_lt b d) (modSet_bit.2 ⟨0, by omega, a0, Nat.zero_mod d⟩) (fold_bit0 h.1 b0) (tiled_symm (fold_lt b d) (modSet_lt h.1) hft) s t (ppN_mem.2 ⟨s1, l1, d1, s4⟩) (ppN_mem.2 ⟨t1, l2, d2, t4⟩) hp ((zr_mod hb b0 h ht' d1).1 zs) ((zr_mod hb b0 h ht' d2).1 zt)
          exact (zr_mod hb b0 h ht' hds).2 this
        · exact absurd ⟨zt, zr_per h24 (by omega) hb h (by omega) t3 d2⟩ (hex t hst)
      · exact absurd ⟨zs, zr_per h24 (by omega) hb h (by omega) s3 d1⟩ (hex s hs)
/-! the other way: the sums tell the whole circle -/
theorem tot_swap {n a m b : Nat} (g : Nat → Nat → Int) : tot n a (fun k => tot m b (fun y => g k y)) = tot m b (fun y => tot n a (fun k => g k y)) := by
  unfold tot
  have e1 : ∀ k, (if a.testBit k = true then upto (fun y => if b.testBit y = true then g k y else 0) m else 0) = upto (fun y => if a.testBit k = true then (if b.testBit y = true then g k y else 0) else 0) m := fun k => by
    split
    · rfl
    · exact (upto_zero0 m).symm
  simp only [e1]
  rw [upto_swap]
  refine upto_congr (fun y _ => ?_)
  by_cases hb : b.testBit y = true
  · simp only [hb, if_true]
  · simp only [hb, if_false, Bool.false_eq_true, ite_self]
    exact upto_zero0 n
theorem all_tab : ((List.range 25).all fun n => (List.range n).all fun j => decide (upto (fun i => if n % (i + 1) = 0 then cS (i + 1) j else 0) n = if j = 0 then (n : Int) else 0)) = true := by kernel_rfl
theorem all_sum {n : Nat} (h1 : 1 ≤ n) (h24 : n ≤ 24) (j : Nat) : upto (fun i => if n % (i + 1) = 0 then cS (i + 1) j else 0) n = if j % n = 0 then (n : Int) else 0 := by
  have h := of_decide_eq_true (List.all_eq_true.1 (List.all_eq_true.1 all_tab n (List.mem_range.2 (by omega))) (j % n) (List.mem_range.2 (Nat.mod_lt _ h1)))
  rw [← h]
  refine upto_congr (fun i _ => ?_)
  by_cases hd : n % (i + 1) = 0
  · rw [if_pos hd, if_pos hd, ← cS_mod (i + 1) j, ← cS_mod (i + 1) (j % n), Nat.mod_mod_of_dvd _ (Nat.dvd_of_mod_eq_zero hd)]
  · rw [if_neg hd, if_neg hd]
theorem cS_one (j : Nat) : cS 1 j = 1 := by unfold cS; rw [Nat.mod_one]; rfl
theorem tot_zero {n a : Nat} : tot n a (fun _ => 0) = 0 := by
  unfold tot
  exact (upto_congr (fun k _ => by split <;> rfl)).trans (upto_zero0 n)
theorem tot_size {n a : Nat} (c : Int) : tot n a (fun _ => c) = (chSize n a : Int) * c := by
  unfold tot
  rw [chSize_cnt]
  induction n with
  | zero => rw [cnt_zero]; simp [upto]
  | succ n ih =>
    rw [upto, ih, cnt_succ]
    split
    · rw [Int.natCast_add, Int.add_mul]; simp
    · simp
theorem conv_tile {n a b : Nat} (h1 : 1 ≤ n) (h24 : n ≤ 24) (ha : a < 2 ^ n) (hz : ∀ s, 2 ≤ s → n % s = 0 → zr s n a ∨ zr s n b) (hs : chSize n a * chSize n b = n) : Tiled n a b := by
  intro x hx
  have e1 : tot n b (fun y => tot n a (fun k => if (k + (y + (n - x))) % n = 0 then (n : Int) else 0)) = (n : Int) * (cv n a b n x : Int) := by
    unfold cv
    rw [cnt_sumTo]
    unfold tot
    have go : ∀ m, m ≤ n → upto (fun y => if b.testBit y = true then upto (fun k => if a.testBit k = true then (if (k + (y + (n - x))) % n = 0 then (n : Int) else 0) else 0) n else 0) m = (n : Int) * (sumTo (fun i => if (b.testBit i && (moveN n a i).testBit x) = true then 1 else 0) m : Int) := by
      intro m
      induction m with
      | zero => intro _; simp [upto, sumTo]
      | succ m ih =>
        intro hm
        rw [upto, ih (by omega), sumTo, Int.natCast_add, Int.mul_add]
        congr 1
        by_cases hb : b.testBit m = true
        · rw [if_pos hb, hb, Bool.true_and, testBit_moveN ha (by omega) hx]
          have hlt : (x + (n - m)) % n < n := Nat.mod_lt _ h1
          have hiff : ∀ k, k < n → ((k + (m + (n - x))) % n = 0 ↔ k = (x + (n - m)) % n) := fun k hk => by
            have e0 : (k + (m + (n - x))) % n = (k + (m + (n - x)) % n) % n := by rw [Nat.add_mod_mod]
            have hl2 : (m + (n - x)) % n < n := Nat.mod_lt _ h1
            rw [e0, plus_if hk hl2]
            rw [back_if (by omega) hx] at hl2 ⊢
            rw [back_if hx (by omega)]
            split <;> split <;> split <;> omega
          rw [upto_upd (f := fun k => if a.testBit k = true then (if (k + (m + (n - x))) % n = 0 then (n : Int) else 0) else 0) (g := fun k => if k = (x + (n - m)) % n then 0 else (if a.testBit k = true then (if (k + (m + (n - x))) % n = 0 then (n : Int) else 0) else 0)) (i := (x + (n - m)) % n) n hlt (fun j hj => by rw [if_neg hj])]
          have ez : upto (fun k => if k = (x + (n - m)) % n then 0 else (if a.testBit k = true then (if (k + (m + (n - x))) % n = 0 then (n : Int) else 0) else 0)) n = 0 := by
            refine (upto_congr (fun k hk => ?_)).trans (upto_zero0 n)
            by_cases hk2 : k = (x + (n - m)) % n
            · rw [if_pos hk2]
            · rw [if_neg hk2, if_neg (fun h => hk2 ((hiff k hk).1 h)), ite_self]
          rw [ez, if_pos rfl, if_pos ((hiff _ hlt).2 rfl)]
          split <;> simp
        · rw [if_neg hb, if_neg (by simp [hb])]; simp
    exact go n (Nat.le_refl _)
  have e2 : tot n b (fun y => tot n a (fun k => if (k + (y + (n - x))) % n = 0 then (n : Int) else 0)) = upto (fun i => if n % (i + 1) = 0 then tot n b (fun y => tot n a (fun k => cS (i + 1) (k + (y + (n - x))))) else 0) n := by
    have f1 : ∀ y, tot n a (fun k => if (k + (y + (n - x))) % n = 0 then (n : Int) else 0) = upto (fun i => (if n % (i + 1) = 0 then 1 else 0) * tot n a (fun k => cS (i + 1) (k + (y + (n - x))))) n := fun y => by
      rw [← tot_lin (fun i k => cS (i + 1) (k + (y + (n - x)))) (fun i => if n % (i + 1) = 0 then 1 else 0) n]
      refine tot_congr (fun k _ => ?_)
      rw [← all_sum h1 h24]
      exact upto_congr (fun i _ => by split <;> simp)
    simp only [f1]
    rw [tot_lin (fun i y => tot n a (fun k => cS (i + 1) (k + (y + (n - x))))) (fun i => if n % (i + 1) = 0 then 1 else 0) n]
    exact upto_congr (fun i _ => by split <;> simp)
  have e3 : upto (fun i => if n % (i + 1) = 0 then tot n b (fun y => tot n a (fun k => cS (i + 1) (k + (y + (n - x))))) else 0) n = (n : Int) := by
    obtain ⟨m, rfl⟩ : ∃ m, n = m + 1 := ⟨n - 1, by omega⟩
    rw [upto_first]
    have z : upto (fun i => if (m + 1) % (i + 1 + 1) = 0 then tot (m + 1) b (fun y => tot (m + 1) a (fun k => cS (i + 1 + 1) (k + (y + (m + 1 - x))))) else 0) m = 0 := by
      refine (upto_congr (fun i _ => ?_)).trans (upto_zero0 m)
      by_cases hd : (m + 1) % (i + 1 + 1) = 0
      · rw [if_pos hd]
        rcases hz (i + 1 + 1) (by omega) hd with h | h
        · have : ∀ y, tot (m + 1) a (fun k => cS (i + 1 + 1) (k + (y + (m + 1 - x)))) = 0 := fun y => h _
          simp only [this]
          exact tot_zero
        · rw [tot_swap (fun y k => cS (i + 1 + 1) (k + (y + (m + 1 - x))))]
          have : ∀ k, tot (m + 1) b (fun y => cS (i + 1 + 1) (k + (y + (m + 1 - x)))) = 0 := fun k => by
            rw [← h (k + (m + 1 - x))]
            exact tot_congr (fun y _ => by rw [show k + (y + (m + 1 - x)) = y + (k + (m + 1 - x)) by omega])
          simp only [this]
          exact tot_zero
      · rw [if_neg hd]
    rw [z, Int.add_zero, if_pos (Nat.mod_one _)]
    simp only [Nat.zero_add, cS_one, tot_size, Int.mul_one]
    rw [← Int.natCast_mul, Nat.mul_comm, hs]
  have e4 : (n : Int) * (cv n a b n x : Int) = (n : Int) * 1 := by rw [← e1, e2, e3, Int.mul_one]
  have := Int.eq_of_mul_eq_mul_left (by omega) e4
  omega
/-! the partner that the conditions give -/
def bldG (n : Nat) (ra : List Nat) : Nat → Nat → Nat → Nat
  | 0, _, b => b
  | m + 1, s, b => if (decide (n % s = 0) && decide (prN s ≠ 0) && !decide (s ∈ ra)) = true then bldG n ra m (s + 1) (orMv n b (stepN n s) (prN s) 0 0) else bldG n ra m (s + 1) b
theorem buildN_eq {n a : Nat} : ∀ (m s b : Nat), 2 ≤ s → s + m = n + 1 → buildN n a m s b = bldG n ((ppN n).filter (isRt n a)) m s b
  | 0, _, _, _, _ => rfl
  | m + 1, s, b, h2, hm => by
    have e : doesB n a s = (decide (n % s = 0) && decide (prN s ≠ 0) && !decide (s ∈ (ppN n).filter (isRt n a))) := by
      unfold doesB
      by_cases h1 : n % s = 0
      · by_cases hp : prN s ≠ 0
        · have : (s ∈ (ppN n).filter (isRt n a)) ↔ isRt n a s = true := by
            rw [List.mem_filter]
            exact ⟨fun h => h.2, fun h => ⟨ppN_mem.2 ⟨h2, by omega, h1, hp⟩, h⟩⟩
          rw [decide_eq_true h1, decide_eq_true hp]
          by_cases hr : isRt n a s = true
          · rw [hr, decide_eq_true (this.2 hr)]
          · rw [decide_eq_false (fun h => hr (this.1 h))]
            rw [Bool.not_eq_true] at hr
            rw [hr]
        · rw [decide_eq_false hp]; simp
      · rw [decide_eq_false h1]; simp
    unfold buildN bldG
    rw [e, buildN_eq m (s + 1) _ (by omega) (by omega), buildN_eq m (s + 1) _ (by omega) (by omega)]
def fullc (n t : Nat) : List Nat := (ppN n).filter fun s => decide (t % s = 0) && decide ((t / s) % prN s ≠ 0)
theorem full_tab : ((List.range' 2 23).all fun n => (List.range' 2 (n - 1)).all fun t => decide (n % t ≠ 0) || match fullc n t with
    | [x] => decide (x = t)
    | [x, y] => decide (x * y = t) && decide (prN x ≠ prN y)
    | _ => false) = true := by kernel_rfl
def bldOk (n : Nat) (ra : List Nat) (B : Nat) : Bool := decide (B < 2 ^ n) && B.testBit 0 && decide (prodP 1 ra * ((List.range n).countP B.testBit : Int) = (n : Int)) &&
  (List.range' 2 (n - 1)).all fun t => decide (n % t ≠ 0) || ((fullc n t).all fun s => decide (s ∈ ra)) || (List.range t).all fun m => decide (tot n B (fun k => cS t (k + m)) = 0)
theorem bld_tab : ((List.range' 2 23).all fun n => allSub (ppN n) fun ra => bldOk n ra (bldG n ra (n - 1) 2 1)) = true := by kernel_rfl
theorem sec_tab2 : ((List.range' 2 23).all fun n => allSub (divsN n) fun rs => (okP rs 1 && loopH rs rs 1) == rs.all fun s => rs.all fun t => decide (prN s = 0) || decide (prN t = 0) || decide (prN s = prN t) || decide (s * t ∈ rs)) = true := by kernel_rfl
theorem secB_iff {n a : Nat} (h2 : 2 ≤ n) (h24 : n ≤ 24) : secB n a = true ↔ ∀ s ∈ rootsN n a, ∀ t ∈ rootsN n a, prN s ≠ 0 → prN t ≠ 0 → prN s ≠ prN t → s * t ∈ rootsN n a := by
  have h := List.all_eq_true.1 sec_tab2 n (List.mem_range'_1.2 ⟨h2, by omega⟩)
  have h := allSub_filter (isRt n a) _ _ h
  rw [← rootsN_sub, beq_iff_eq] at h
  rw [← sec_eq h2 h24, h, List.all_eq_true]
  constructor
  · intro h s hs t ht ps pt hp
    have h := List.all_eq_true.1 (h s hs) t ht
    rw [decide_eq_false ps, decide_eq_false pt, decide_eq_false hp, Bool.false_or, Bool.false_or, Bool.false_or] at h
    exact of_decide_eq_true h
  · intro h s hs
    rw [List.all_eq_true]
    intro t ht
    by_cases ps : prN s = 0
    · rw [decide_eq_true ps]; simp
    · by_cases pt : prN t = 0
      · rw [decide_eq_true pt]; simp
      · by_cases hp : prN s = prN t
        · rw [decide_eq_true hp]; simp
        · rw [decide_eq_true (h s hs t ht ps pt hp)]; simp
theorem prodP_filter : ∀ (l : List Nat) (p : Int), prodP p (l.filter fun s => decide (prN s ≠ 0)) = prodP p l
  | [], p => rfl
  | s :: l, p => by
    have e : prodP p (s :: l) = prodP (if (prN s : Int) > 0 then wrap64 (p * (prN s : Int)) else p) l := rfl
    rw [e]
    by_cases h : prN s = 0
    · rw [List.filter_cons_of_neg (by simp [h]), if_neg (by omega)]
      exact prodP_filter l p
    · rw [List.filter_cons_of_pos (by simp [h]), if_pos (by omega), ← prodP_filter l, show prodP p (s :: l.filter fun s => decide (prN s ≠ 0)) = prodP (if (prN s : Int) > 0 then wrap64 (p * (prN s : Int)) else p) (l.filter fun s => decide (prN s ≠ 0)) from rfl, if_pos (by omega)]
theorem roots_pp (n a : Nat) : (rootsN n a).filter (fun s => decide (prN s ≠ 0)) = (ppN n).filter (isRt n a) := by
  unfold rootsN ppN
  rw [List.filter_filter, List.filter_filter]
  refine List.filter_congr (fun s _ => ?_)
  cases decide (n % s = 0) <;> cases isRt n a s <;> cases decide (prN s ≠ 0) <;> rfl
theorem firstB_iff {n a : Nat} : firstB n a = true ↔ prodP 1 ((ppN n).filter (isRt n a)) = (chSize n a : Int) := by
  unfold firstB
  rw [beq_iff_eq, ← prodP_filter, roots_pp]
theorem mem_roots_pp {n a s : Nat} (h : s ∈ rootsN n a) (hp : prN s ≠ 0) : s ∈ ppN n ∧ isRt n a s = true := by
  obtain ⟨h1, h2, h3, h4⟩ := rootsN_mem.1 h
  exact ⟨ppN_mem.2 ⟨h1, h2, h3, hp⟩, h4⟩
/-- **a tile meets both conditions** -/
theorem tile_conds {n a b : Nat} (h2 : 2 ≤ n) (h24 : n ≤ 24) (ha : a < 2 ^ n) (hb : b < 2 ^ n) (a0 : a.testBit 0 = true) (b0 : b.testBit 0 = true) (ht : Tiled n a b) : firstB n a = true ∧ secB n a = true := by
  refine ⟨firstB_iff.2 (tile_pp h2 h24 ha hb a0 b0 ht).1, (secB_iff h2 h24).2 (fun s hs t hst ps pt hp => ?_)⟩
  obtain ⟨s1, s2⟩ := mem_roots_pp hs ps
  obtain ⟨t1, t2⟩ := mem_roots_pp hst pt
  have hz := tile_second n h2 h24 a b ha hb a0 b0 ht s t s1 t1 hp ((isRt_zr' h24 s1).1 s2) ((isRt_zr' h24 t1).1 t2)
  obtain ⟨u1, u2, u3, _⟩ := ppN_mem.1 s1
  obtain ⟨v1, v2, v3, _⟩ := ppN_mem.1 t1
  have hdn : n % (s * t) = 0 := Nat.mod_eq_zero_of_dvd (Nat.Coprime.mul_dvd_of_dvd_of_dvd (pair_co u1 (by omega) v1 (by omega) ps pt hp) (Nat.dvd_of_mod_eq_zero u3) (Nat.dvd_of_mod_eq_zero v3))
  have hle : s * t ≤ n := Nat.le_of_dvd (by omega) (Nat.dvd_of_mod_eq_zero hdn)
  have h2m : 2 ≤ s * t := Nat.le_trans u1 (Nat.le_mul_of_pos_right s (by omega))
  exact rootsN_mem.2 ⟨h2m, hle, hdn, (isRt_zr (by omega) hle h24).2 hz⟩
/-- **a rhythm that meets both has a partner** -/
theorem conds_tile {n a : Nat} (h2 : 2 ≤ n) (h24 : n ≤ 24) (ha : a < 2 ^ n) (h1 : firstB n a = true) (hsec : secB n a = true) :
    buildN n a (n - 1) 2 1 < 2 ^ n ∧ (buildN n a (n - 1) 2 1).testBit 0 = true ∧ Tiled n a (buildN n a (n - 1) 2 1) := by
  rw [buildN_eq (n - 1) 2 1 (Nat.le_refl _) (by omega)]
  have h := List.all_eq_true.1 bld_tab n (List.mem_range'_1.2 ⟨h2, by omega⟩)
  have h := allSub_filter (isRt n a) _ _ h
  generalize bldG n ((ppN n).filter (isRt n a)) (n - 1) 2 1 = B at h
  unfold bldOk at h
  rw [Bool.and_eq_true, Bool.and_eq_true, Bool.and_eq_true, decide_eq_true_eq, decide_eq_true_eq, List.all_eq_true] at h
  obtain ⟨⟨⟨hB, B0⟩, hsz⟩, hall⟩ := h
  refine ⟨hB, B0, conv_tile (by omega) h24 ha (fun t ht hnt => ?_) ?_⟩
  · have htn : t ≤ n := Nat.le_of_dvd (by omega) (Nat.dvd_of_mod_eq_zero hnt)
    have h3 := hall t (List.mem_range'_1.2 ⟨ht, by omega⟩)
    rw [decide_eq_false (show ¬ n % t ≠ 0 by omega), Bool.false_or, Bool.or_eq_true] at h3
    rcases h3 with h3 | h3
    · left
      rw [List.all_eq_true] at h3
      have h4 := List.all_eq_true.1 (List.all_eq_true.1 full_tab n (List.mem_range'_1.2 ⟨h2, by omega⟩)) t (List.mem_range'_1.2 ⟨ht, by omega⟩)
      rw [decide_eq_false (show ¬ n % t ≠ 0 by omega), Bool.false_or] at h4
      have hin : ∀ s ∈ fullc n t, s ∈ rootsN n a ∧ prN s ≠ 0 := fun s hs => by
        have := of_decide_eq_true (h3 s hs)
        rw [List.mem_filter] at this
        obtain ⟨q1, q2, q3, q4⟩ := ppN_mem.1 this.1
        exact ⟨rootsN_mem.2 ⟨q1, q2, q3, this.2⟩, q4⟩
      have fin : t ∈ rootsN n a → zr t n a := fun h => (isRt_zr (by omega) htn h24).1 (rootsN_mem.1 h).2.2.2
      revert h4 hin
      generalize fullc n t = F
      intro h4 hin
      match F, h4, hin with
      | [x], h4, hin =>
        have e := of_decide_eq_true h4
        rw [← e] at fin ⊢
        exact fin (hin x (by simp)).1
      | [x, y], h4, hin =>
        rw [Bool.and_eq_true, decide_eq_true_eq, decide_eq_true_eq] at h4
        obtain ⟨x1, x2⟩ := hin x (by simp)
        obtain ⟨y1, y2⟩ := hin y (by simp)
        have := (secB_iff h2 h24).1 hsec x x1 y y1 x2 y2 h4.2
        rw [h4.1] at this
        exact fin this
    · right
      intro m
      rw [List.all_eq_true] at h3
      rw [← of_decide_eq_true (h3 (m % t) (List.mem_range.2 (Nat.mod_lt _ (by omega))))]
      exact tot_congr (fun k _ => by rw [← cS_mod t (k + m), ← cS_mod t (k + m % t), Nat.add_mod_mod])
  · rw [firstB_iff.1 h1, ← cntBits, chSize_bits] at hsz
    have : ((chSize n a * chSize n B : Nat) : Int) = (n : Int) := by rw [Int.natCast_mul]; exact hsz
    omega

end Go.Proofs.YtkidgakjeahebaaDoor.P
namespace Go.Proofs.YtkidgakjeahebaaDoor.P
open Go.RowKit Go.Proofs.YtkidgakjeahebaaDoorW.PrintWords Go.Proofs.YtkidgakjeahebaaDoorW.PrintLast Go.Proofs.YtkidgakjeahebaaDoorW.PrintMore
attribute [local go_sem] max2_int min2_int max_two min_two max_three min_three max_four min_four   -- for this text's walks alone
set_option linter.unusedVariables false
set_option linter.unusedSimpArgs false

/-! all partners, and the least one -/
theorem minStep_fold : ∀ (l : List Nat) (m : Nat), m ≠ 0 → (∀ b ∈ l, b ≠ 0) → l.foldl minStep m ≠ 0 ∧ l.foldl minStep m ∈ m :: l ∧ ∀ b ∈ m :: l, l.foldl minStep m ≤ b
  | [], m, h, _ => ⟨h, by simp, by simp⟩
  | c :: l, m, h, hl => by
    have e : minStep m c = if c < m then c else m := by unfold minStep; simp [h]
    have h1 : minStep m c ≠ 0 := by rw [e]; split; exact hl c (by simp); exact h
    obtain ⟨a1, a2, a3⟩ := minStep_fold l (minStep m c) h1 (fun b hb => hl b (by simp [hb]))
    refine ⟨a1, ?_, fun b hb => ?_⟩
    · rw [List.foldl_cons]
      rcases List.mem_cons.1 a2 with h2 | h2
      · rw [h2, e]; split <;> simp
      · simp [h2]
    · rw [List.foldl_cons]
      have h3 := a3 (minStep m c) (by simp)
      rw [List.mem_cons, List.mem_cons] at hb
      rcases hb with rfl | rfl | hb
      · have : minStep b c ≤ b := by rw [e]; split <;> omega
        omega
      · have : minStep m b ≤ b := by rw [e]; split <;> omega
        omega
      · exact a3 b (by simp [hb])
theorem minB_spec {l : List Nat} (hl : ∀ b ∈ l, b ≠ 0) (h : l ≠ []) : minB l ≠ 0 ∧ minB l ∈ l ∧ ∀ b ∈ l, minB l ≤ b := by
  cases l with
  | nil => exact absurd rfl h
  | cons c l =>
    have e : minB (c :: l) = l.foldl minStep c := by
      show l.foldl minStep (minStep 0 c) = _
      unfold minStep; simp
    rw [e]
    exact minStep_fold l c (hl c (by simp)) (fun b hb => hl b (by simp [hb]))
theorem PL_spec {n a : Nat} (hn : 1 ≤ n) (ha : a < 2 ^ n) (h0 : a.testBit 0 = true) : (PL n a).Nodup ∧ ∀ c, c ∈ PL n a ↔ (c < 2 ^ n ∧ Tiled n a c ∧ c.testBit 0 = true) := partners_spec hn ha h0 (stepOk_A ha)
theorem PL_ne {n a : Nat} (hn : 1 ≤ n) (ha : a < 2 ^ n) (h0 : a.testBit 0 = true) : ∀ b ∈ PL n a, b ≠ 0 := by
  intro b hb e
  have := ((PL_spec hn ha h0).2 b).1 hb
  rw [e] at this
  simp at this
theorem PL_some {n a : Nat} (hn : 1 ≤ n) (ha : a < 2 ^ n) (h0 : a.testBit 0 = true) : PL n a ≠ [] ↔ ∃ c, c < 2 ^ n ∧ Tiled n a c ∧ c.testBit 0 = true := by
  constructor
  · intro h
    obtain ⟨c, hc⟩ := List.exists_mem_of_ne_nil _ h
    exact ⟨c, ((PL_spec hn ha h0).2 c).1 hc⟩
  · rintro ⟨c, hc⟩ e
    have := ((PL_spec hn ha h0).2 c).2 hc
    rw [e] at this; cases this
theorem Partner_f {n a : Nat} (hv : ValidR n a) : canon_Partner.f n a = some (if PL n a = [] then (0, 4) else (((minB (PL n a) : Nat) : Int), 0)) := by
  unfold canon_Partner.f
  rw [if_pos hv]
  obtain ⟨N, A, e1, e2, h2, h24, hA, h0⟩ := validR_nat hv
  obtain rfl : n = N := by omega
  obtain rfl : a = A := by omega
  simp only [Int.toNat_natCast]
  by_cases e : PL n a = []
  · have : minI (PL n a) = 0 := by unfold minI; rw [e]; rfl
    rw [if_pos this, if_pos e]
  · have h := (minB_spec (PL_ne (by omega) hA h0) e).1
    have : minI (PL n a) ≠ 0 := by unfold minI; omega
    rw [if_neg this, if_neg e]; rfl
theorem odd_valid {n a : Nat} (hn : 2 ≤ n) (hn2 : n ≤ 24) (ha : a < 2 ^ n) (h0 : a.testBit 0 = true) : ValidR (n : Int) (a : Int) := by
  have e1 : (a : Int) < ((2 ^ n : Nat) : Int) := by omega
  rw [pow_cast] at e1
  refine ⟨by omega, by omega, by omega, by rw [Int.toNat_natCast]; exact e1, ?_⟩
  have := of_decide_eq_true ((Nat.testBit_zero a).symm.trans h0)
  omega
theorem PL_len {n a : Nat} (hn : 1 ≤ n) (ha : a < 2 ^ n) (h0 : a.testBit 0 = true) : (PL n a).length ≤ 2 ^ n := by
  have := nodup_length_le (PL n a) (List.range (2 ^ n)) (PL_spec hn ha h0).1 (fun c hc => List.mem_range.2 (((PL_spec hn ha h0).2 c).1 hc).1)
  rwa [List.length_range] at this
theorem lenI_PL {n a : Nat} (hn : 1 ≤ n) (hn2 : n ≤ 24) (ha : a < 2 ^ n) (h0 : a.testBit 0 = true) : lenI (PL n a) = (((PL n a).length : Nat) : Int) := by
  have := PL_len hn ha h0
  have := pow24 hn2
  unfold lenI
  exact wrap_id (by omega) (by omega)

end Go.Proofs.YtkidgakjeahebaaDoor.P
namespace Go.Proofs.YtkidgakjeahebaaDoor.P
open Go.RowKit Go.Proofs.YtkidgakjeahebaaDoorW.PrintWords Go.Proofs.YtkidgakjeahebaaDoorW.PrintLast Go.Proofs.YtkidgakjeahebaaDoorW.PrintMore
attribute [local go_sem] max2_int min2_int max_two min_two max_three min_three max_four min_four   -- for this text's walks alone
set_option linter.unusedVariables false
set_option linter.unusedSimpArgs false

theorem CanonConditions : sackbutlaw02_CanonConditions.Pure := by
  intro a0 a1 _ _
  refine Ev.rounds (g := fun k => sackbutlaw02_CanonConditions.f k a0 a1) ?_
  unfold sackbutlaw02_CanonConditions.f
  by_cases hv : ValidR a0 a1
  · obtain ⟨n, a, rfl, rfl, h2, h24, ha, h0⟩ := validR_nat hv
    have hvf : canon_circle_valid.f (n : Int) [(a : Int)] = some true := by rw [valid1_f, decide_eq_true hv]
    have hdom : 2 ≤ (n : Int) ∧ (n : Int) ≤ 24 ∧ 0 ≤ (a : Int) ∧ (a : Int) < (2 : Int) ^ (n : Int).toNat := ⟨hv.1, hv.2.1, hv.2.2.1, hv.2.2.2.1⟩
    have hsec : canon_circle_second.f (n : Int) (a : Int) = some (secB n a) := by
      unfold canon_circle_second.f
      rw [if_pos hdom, Int.toNat_natCast, Int.toNat_natCast, sec_eq h2 h24]
    have hB : Ev (fun k => canon_Build.f k (n : Int) (a : Int)) (if firstB n a && secB n a then ((buildN n a (n - 1) 2 1 : Int), 0) else (0, 4)) := by
      unfold canon_Build.f
      refine Ev.bind_some hvf ?_
      simp only [if_true]
      refine Ev.bind (first_ev h2 h24 ha) ?_
      cases firstB n a with
      | false =>
        simp only [Bool.false_eq_true, if_false, Bool.false_and]
        refine Ev.succ ?_
        simp only [canon_Build.j0, if_true]
        exact Ev.some _
      | true =>
        simp only [if_true, Bool.true_and]
        refine Ev.bind_some hsec ?_
        cases secB n a with
        | false =>
          refine Ev.succ ?_
          simp only [canon_Build.j0, Bool.not_false, if_true, Bool.false_eq_true, if_false]
          exact Ev.some _
        | true =>
          refine Ev.succ ?_
          simp only [canon_Build.j0, Bool.not_true, Bool.false_eq_true, if_false, if_true]
          refine Ev.bind (roots_ev h2 h24 ha) ?_
          exact build_l0 h2 h24 ha (n - 1) 2 1 (Nat.le_refl _) (by omega) (by have := Nat.pow_le_pow_right (show 0 < 2 by decide) h2; omega)
    have e2 : Ev (fun k => canon_First.f k (n : Int) (a : Int)) (firstB n a, 0) := by
      unfold canon_First.f
      refine Ev.bind_some hvf ?_
      simp only [if_true]
      exact Ev.bind (first_ev h2 h24 ha) (Ev.some _)
    have e3 : canon_Second.f (n : Int) (a : Int) = some (secB n a, 0) := by
      unfold canon_Second.f
      rw [hvf, Option.bind_some, if_pos rfl, hsec, Option.bind_some]
    refine Ev.bind_some (Partner_f hv) ?_
    refine Ev.bind_some (rhythm_f (n : Int) (a : Int)) ?_
    rw [decide_eq_true hv]
    simp only [if_true]
    refine Ev.bind e2 ?_
    refine Ev.bind_some e3 ?_
    refine Ev.bind hB ?_
    by_cases hp : PL n a = []
    · have hno : ¬ (firstB n a = true ∧ secB n a = true) := by
        rintro ⟨f1, f2⟩
        obtain ⟨c1, c2, c3⟩ := conds_tile h2 h24 ha f1 f2
        exact (PL_some (by omega) ha h0).2 ⟨_, c1, c3, c2⟩ hp
      have hand : (firstB n a && secB n a) = false := by
        rw [Bool.and_eq_false_iff]
        by_cases f1 : firstB n a = true
        · right
          rw [← Bool.not_eq_true]
          exact fun f2 => hno ⟨f1, f2⟩
        · left
          rw [← Bool.not_eq_true]
          exact f1
      rw [hand]
      rw [if_pos hp]
      have fin : Ev (fun k => sackbutlaw02_CanonConditions.j0 k (n : Int) (a : Int) 0 4 0 4 false) true := by
        refine Ev.succ ?_
        simp only [sackbutlaw02_CanonConditions.j0, Bool.false_eq_true, if_false, if_true, if_neg (show ¬ (4 : Int) = 0 by decide)]
        exact Ev.bind awake_ev (Ev.some _)
      have d4 : ((4 : Int) == 0) = false := rfl
      simp only [Bool.false_eq_true, if_false, if_true, d4, bne_self_eq_false]
      cases hf : firstB n a with
      | false =>
        simp only [Bool.false_eq_true, if_false]
        exact fin
      | true =>
        rw [hf, Bool.true_and] at hand
        rw [hand]
        simp only [if_true, bne_self_eq_false, Bool.false_eq_true, if_false]
        exact fin
    · obtain ⟨c, hc1, hc2, hc3⟩ := (PL_some (by omega) ha h0).1 hp
      obtain ⟨f1, f2⟩ := tile_conds h2 h24 ha hc1 h0 hc3 hc2
      obtain ⟨c1, c2, c3⟩ := conds_tile h2 h24 ha f1 f2
      obtain ⟨m0, m1, m2⟩ := minB_spec (PL_ne (by omega) ha h0) hp
      obtain ⟨p1, p2, p3⟩ := ((PL_spec (by omega) ha h0).2 _).1 m1
      have hle := m2 _ (((PL_spec (by omega) ha h0).2 _).2 ⟨c1, c3, c2⟩)
      rw [f1, f2, if_neg hp]
      generalize minB (PL n a) = b at p1 p2 p3 hle
      generalize buildN n a (n - 1) 2 1 = d at c1 c2 c3 hle
      simp only [Bool.and_self, if_true, beq_self_eq_true, bne_self_eq_false, Bool.false_eq_true, if_false]
      have t1 := Tiles_ev (n : Int) (a : Int) (b : Int)
      have t2 := Tiles_ev (n : Int) (a : Int) (d : Int)
      rw [if_pos ⟨hv, odd_valid h2 h24 p1 p3⟩] at t1
      rw [if_pos ⟨hv, odd_valid h2 h24 c1 c2⟩] at t2
      simp only [Int.toNat_natCast] at t1 t2
      rw [decide_eq_true p2] at t1
      rw [decide_eq_true c3] at t2
      refine Ev.succ ?_
      simp only [sackbutlaw02_CanonConditions.j0, Bool.false_eq_true, if_false, if_true]
      refine Ev.bind t1 ?_
      refine Ev.bind t2 ?_
      simp only [if_true, if_pos (show (b : Int) ≤ (d : Int) by omega)]
      exact Ev.bind awake_ev (Ev.some _)
  · have hP : canon_Partner.f a0 a1 = some (0, 2) := by unfold canon_Partner.f; rw [if_neg hv]
    refine Ev.bind_some hP ?_
    refine Ev.bind_some (rhythm_f a0 a1) ?_
    rw [decide_eq_false hv]
    simp only [Bool.false_eq_true, if_false, if_true]
    exact Ev.bind awake_ev (Ev.some _)

end Go.Proofs.YtkidgakjeahebaaDoor.P
namespace Go.Proofs.YtkidgakjeahebaaDoor.Pure
theorem CanonConditions : Go.Proofs.YtkidgakjeahebaaDoor.P.sackbutlaw02_CanonConditions.Pure := Go.Proofs.YtkidgakjeahebaaDoor.P.CanonConditions
end Go.Proofs.YtkidgakjeahebaaDoor.Pure
namespace Go.Proofs.YtkidgakjeahebaaDoor.P
open Go.RowKit Go.Proofs.YtkidgakjeahebaaDoorW.PrintWords Go.Proofs.YtkidgakjeahebaaDoorW.PrintLast Go.Proofs.YtkidgakjeahebaaDoorW.PrintMore
attribute [local go_sem] max2_int min2_int max_two min_two max_three min_three max_four min_four   -- for this text's walks alone
set_option linter.unusedVariables false
set_option linter.unusedSimpArgs false

open Go.ChangeShapes Go.WideShapes Go.ChangeAt Go.WideElems
/-! what the row's listed tables give the walks -/
def doorLaid2 : List (String × DataW Unit) := [("math/bits.deBruijn32tab", Rows.laid_math_bits_deBruijn32tab), ("math/bits.deBruijn64tab", Rows.laid_math_bits_deBruijn64tab)]
theorem door_g64 : Tryd.prog.globalNamed "math/bits.deBruijn64tab" = some 1 := by kernel_rfl
theorem door_t64 : (Tryd.prog.globals[1]?).map (·.type) = some 85 := by kernel_rfl
theorem door_met (os : Os) (args : Array Value) : laidMetH Tryd.prog doorLaid2 ((World.doorLaid Tryd.prog 19 os).forCall (fun _ _ => 0) ⟨#[], args, []⟩).memory :=
  laidMetH_of_parts3 (fuel := 8) (laidMet_of_run' 8 (by kernel_rfl) (by kernel_rfl)) (by kernel_rfl) (by kernel_rfl)
theorem door_tab : (Rows.laid_math_bits_deBruijn64tab : DataW Unit) = .agg (tzTab.map fun (n : Nat) => .lit (.int .u8 (n : Int))) := rfl
theorem door_c8 : Tryd.prog.cellsOf 5 = 1 := by kernel_rfl
theorem tabs_of_laid {W : World} (h : laidMetH Tryd.prog doorLaid2 W) : Tabs W := by
  rw [MakeChecks.laidMetH_plain _ _ _ (by kernel_rfl)] at h
  obtain ⟨ps, ⟨g0, t0, cs0, f0, p0, q0, hg0, ht0, hv0, hd0, ⟨g1, t1, cs1, f1, p1, q1, hg1, ht1, hv1, hd1, _, _⟩, _⟩, _, _⟩ := h
  obtain rfl := Option.some.inj (door_g64.symm.trans hg1)
  obtain rfl := Option.some.inj (door_t64.symm.trans ht1)
  obtain ⟨xs, m1, rfl, hx1, hlen, hn, hel⟩ := DataW.trod_array Tryd.underlying85 hd1
  simp only [Prod.mk.injEq] at hx1
  have hl := hx1.1
  rw [door_tab] at hl
  simp only [DataW.agg.injEq] at hl
  intro i hi
  have h0 := hel i hi
  obtain ⟨x, hx⟩ : ∃ x, xs[i]? = some x := ⟨xs[i], by simp [hn, hi]⟩
  rw [hx] at h0
  obtain ⟨k, e1, e2, _⟩ := DataW.trod_int Tryd.underlying5 h0
  have hk := congrArg (fun l => l[i]?) hl
  simp only [List.getElem?_map, hx, Option.map_some, e2] at hk
  have ht : tzTab[i]? = some (tzTab.getD i 0) := by
    rw [List.getD_eq_getElem?_getD]
    have hlen : tzTab.length = 64 := by decide
    rw [List.getElem?_eq_getElem (by omega)]; rfl
  rw [ht] at hk
  simp only [Option.map_some, Option.some.injEq, DataW.lit.injEq, Lit.int.injEq, true_and] at hk
  rw [door_c8, Nat.mul_one] at e1
  have hc := World.var?_cell hg1 hv1 i
  rw [hc]
  have : cs1.toList[i]? = some (.int .u8 k) := by
    have := congrArg (fun l => l[0]?) e1
    simpa using this
  rw [← Array.getElem?_toList, this, hk]

end Go.Proofs.YtkidgakjeahebaaDoor.P
namespace Go.Proofs.YtkidgakjeahebaaDoor.canonConditions
open Go.ChangeShapes Go.WideShapes Go.ChangeAt Go.RowKit
open Go.ChangeMaps (open_string shut_string)
set_option linter.unusedVariables false
theorem own : ownKnob Tryd.prog.godebug = none := by kernel_rfl
set_option maxRecDepth 100000 in
theorem lifted (os : Os) (started : os.Started) (H : Type) (enc : TypeId × Value → H) :
    ReturnsInHanded {} Tryd.checked os 6 .any (fun w args => (Rows.canonConditionsSpec.pre enc Tryd.prog Tryd.f6 [] false w args ∧ laidMetH Tryd.prog P.doorLaid2 w) ∧ sizedMet enc Tryd.prog Tryd.f6 (OpenSpec.ofChange Rows.canonConditionsSpec) false w args) (Rows.canonConditionsSpec.post enc Tryd.prog Tryd.f6 false true false false) := by
  refine returnsInHanded_of_change_and (C := Tryd.checked) (X := fun w _ => laidMetH Tryd.prog P.doorLaid2 w) (fun _ _ _ hh h => h.of_heap hh) own started (by kernel_rfl) Tryd.func6
    (ChangeSpec.witness_shaped (enc := enc) (C := Tryd.checked) (os := os) (X := fun w _ => laidMetH Tryd.prog P.doorLaid2 w) false (World.doorLaid Tryd.prog 19 os) #[.int .i64 0, .int .i64 0] 8 rfl (World.shaped_of_RefB (by kernel_rfl) (by kernel_rfl)) (by kernel_rfl) (by kernel_rfl) (by kernel_rfl) (P.door_met os _)) ?_
  intro W base args ds gs before hval0 hW hcnd hsz0 hL _
  have hsz : (DataW.weightsEach Tryd.prog (Tryd.f6.params.toList ++ Rows.canonConditionsSpec.plain.varTypes Tryd.prog) (ds ++ gs)).all (· ≤ reachBytes) = true := hsz0
  have hval : ∀ (j : Nat) t v, Tryd.f6.params[j]? = some t → args[j]? = some v → Value.okWide Tryd.prog W .any base t v := hval0
  have hW' := hW
  obtain ⟨p, q, hA0, hV, rfl, hfz, hnd⟩ := hW
  have hA : DataW.TrodAll enc Tryd.prog W 0 (fun _ => true) true Tryd.f6.params.toList args.toList ds p := hA0
  rw [Tryd.params6] at hA hval hsz
  obtain ⟨v0, vs0, d0, ds0, p0, q0, hargs, rfl, rfl, h0, r0⟩ := trodAll_cons hA
  obtain ⟨v1, vs1, d1, ds1, p1, q1, rfl, rfl, rfl, h1, r1⟩ := trodAll_cons r0
  obtain ⟨rfl, rfl, rfl⟩ := trodAll_nil r1
  obtain rfl : args = #[v0, v1] := by cases args; simp_all
  obtain ⟨rfl, rfl⟩ := trodVars_none hV
  obtain ⟨a0, rfl, rfl, rfl, w0⟩ := open_int Tryd.underlying3 (hval 0 3 v0 rfl rfl) h0
  obtain ⟨a1, rfl, rfl, rfl, w1⟩ := open_int Tryd.underlying3 (hval 1 3 v1 rfl rfl) h1
  clear hA0 hval0 hsz0 hsz
  refine (P.sackbutlaw02_CanonConditions.walk Pure.CanonConditions a0 a1 W (P.tabs_of_laid hL) w0 w1).mono fun e W' ⟨he, bel⟩ => ?_
  subst he
  exact ⟨_, rfl, _, _, _, [], _, [], hW', trodAll_mk1 (shut_bool Tryd.underlying4 _), (trodAll_cons_mk (shut_int Tryd.underlying3 w0) (trodAll_cons_mk (shut_int Tryd.underlying3 w1) trodAll_mk0)), rfl, bel.frame _, fun h => by cases h⟩
theorem over : Rows.canonConditionsRow.holds Tryd.pinned (OpenSpec.ofChange Rows.canonConditionsSpec) :=
  OpenClaim.holds_of_wide 6 Tryd.f6 rfl rfl rfl rfl rfl rfl rfl ⟨rfl, rfl, rfl, rfl, rfl⟩ rfl rfl rfl rfl rfl (by kernel_rfl) Tryd.func6 (by kernel_rfl)
    (of_decide_eq_true (by kernel_rfl)) (by unfold Func.isWrapper; first | (rw [if_pos (by decide +kernel)]; kernel_rfl) | (rw [if_neg (by decide +kernel)]; exact ⟨rfl, rfl⟩))
    (fun os started H enc _ => lifted os started H enc)
theorem proved : Rows.CanonConditionsSaid := over
#print axioms proved
end Go.Proofs.YtkidgakjeahebaaDoor.canonConditions
namespace Go.Proofs.YtkidgakjeahebaaDoor
theorem canonConditions_row : Rows.CanonConditionsSaid := canonConditions.proved
/-- The tied card, for the claim. -/
theorem canonConditions_holds : Rows.CanonConditionsCardSaid :=
  Claim7.holds_tied_plain_at .later [] [.data, .data] true (true, "2f6bef5c5cfa684a08fccc7872b5524e7a2ff07ef34c06b0423e6453ed67e790") false
    canonConditions_row (fun _ h => by cases h) (by kernel_rfl) (fun _ h => by cases h) canonConditions_row_tie rfl ⟨rfl, rfl⟩ (by kernel_rfl) rfl
    (fun f fn hf hfn => by
      obtain rfl : f = 6 := Option.some.inj ((show Tryd.prog.funcNamed "sackbut/sackbutlaw02.CanonConditions" = some 6 by kernel_rfl).symm.trans hf) |>.symm
      obtain rfl : fn = Tryd.f6 := (Option.some.inj (Tryd.func6.symm.trans hfn)).symm
      exact ⟨by kernel_rfl, fun j t ht => by
        rw [Tryd.params6] at ht
        have hm : t ∈ [3, 3] := by simpa using Array.mem_of_getElem? ht
        have hall : ([3, 3].all fun u => !Tryd.prog.wantsStandIn u) = true := by kernel_rfl
        exact (show Tryd.prog.wantsStandIn t = false by simpa using List.all_eq_true.1 hall t hm)⟩)
    (by kernel_rfl)
end Go.Proofs.YtkidgakjeahebaaDoor
