/- Proved here: the Go function sackbutlaw02.CanonFills returns true for every input (its printed form comes to true), whatever its arguments. Conditions: none beyond the row's own reach in memory. -/
import Derived.StillTailTactics
import Derived.Sort.QuietIn
import Derived.Laws.EntriesVeiled
import Derived.Shelf.Abstract
import Derived.RegionTactic
import Derived.Test.YtkidgakjeahebaaRows
import Derived.WalkKit
import Derived.ProofKit
import Derived.OpenShut
import Derived.ShutString
import Derived.ChangeOld
import Derived.Below
import Derived.SizedLaws
import Derived.Test.YtkidgakjeahebaaCCanonFills1
import Derived.Test.YtkidgakjeahebaaCCanonFills2
import Derived.Test.YtkidgakjeahebaaCCanonFills3
import Derived.Test.YtkidgakjeahebaaCCanonFills4
import Derived.Test.YtkidgakjeahebaaCCanonFills5
import Derived.Test.YtkidgakjeahebaaCCanonFills6
namespace Go.Proofs.Ytkidgakjeahebaa.P
/-! Roots of rhythms by sums of primitive roots of 1 (they are whole numbers). Plain Lean. -/
/-- the sums of the j-th powers of the primitive s-th roots of 1 -/
def cT : List (List Int) := [[], [1], [1, -1], [2, -1, -1], [2, 0, -2, 0], [4, -1, -1, -1, -1], [2, 1, -1, -2, -1, 1], [6, -1, -1, -1, -1, -1, -1], [4, 0, 0, 0, -4, 0, 0, 0], [6, 0, 0, -3, 0, 0, -3, 0, 0], [4, 1, -1, 1, -1, -4, -1, 1, -1, 1], [10, -1, -1, -1, -1, -1, -1, -1, -1, -1, -1], [4, 0, 2, 0, -2, 0, -4, 0, -2, 0, 2, 0], [12, -1, -1, -1, -1, -1, -1, -1, -1, -1, -1, -1, -1], [6, 1, -1, 1, -1, 1, -1, -6, -1, 1, -1, 1, -1, 1], [8, 1, 1, -2, 1, -4, -2, 1, 1, -2, -4, 1, -2, 1, 1], [8, 0, 0, 0, 0, 0, 0, 0, -8, 0, 0, 0, 0, 0, 0, 0], [16, -1, -1, -1, -1, -1, -1, -1, -1, -1, -1, -1, -1, -1, -1, -1, -1], [6, 0, 0, 3, 0, 0, -3, 0, 0, -6, 0, 0, -3, 0, 0, 3, 0, 0], [18, -1, -1, -1, -1, -1, -1, -1, -1, -1, -1, -1, -1, -1, -1, -1, -1, -1, -1], [8, 0, 2, 0, -2, 0, 2, 0, -2, 0, -8, 0, -2, 0, 2, 0, -2, 0, 2, 0], [12, 1, 1, -2, 1, 1, -2, -6, 1, -2, 1, 1, -2, 1, -6, -2, 1, 1, -2, 1, 1], [10, 1, -1, 1, -1, 1, -1, 1, -1, 1, -1, -10, -1, 1, -1, 1, -1, 1, -1, 1, -1, 1], [22, -1, -1, -1, -1, -1, -1, -1, -1, -1, -1, -1, -1, -1, -1, -1, -1, -1, -1, -1, -1, -1, -1], [8, 0, 0, 0, 4, 0, 0, 0, -4, 0, 0, 0, -8, 0, 0, 0, -4, 0, 0, 0, 4, 0, 0, 0]]
def cS (s j : Nat) : Int := (cT.getD s []).getD (j % s) 0
theorem cS_mod (s j : Nat) : cS s (j % s) = cS s j := by unfold cS; rw [Nat.mod_mod]
theorem cS_add {s q : Nat} (h : q % s = 0) (j : Nat) : cS s (j + q) = cS s j := by unfold cS; rw [Nat.add_mod, h, Nat.add_zero, Nat.mod_mod]
theorem upto_zero0 : ∀ n : Nat, upto (fun _ => (0 : Int)) n = 0
  | 0 => rfl
  | n + 1 => by rw [upto, upto_zero0 n]; rfl
theorem upto_plus (f : Nat → Int) (a : Nat) : ∀ b, upto f (a + b) = upto f a + upto (fun i => f (a + i)) b
  | 0 => by simp [upto]
  | b + 1 => by rw [← Nat.add_assoc, upto, upto, upto_plus f a b]; omega
theorem upto_swap (f : Nat → Nat → Int) (n : Nat) : ∀ m, upto (fun i => upto (f i) n) m = upto (fun j => upto (fun i => f i j) m) n
  | 0 => by simp only [upto]; exact (upto_zero0 n).symm
  | m + 1 => by simp only [upto, upto_swap f n m, upto_add]
/-- a sum in rows of d -/
theorem upto_rows (f : Nat → Int) (d : Nat) : ∀ q, upto f (q * d) = upto (fun k => upto (fun j => f (k + j * d)) q) d
  | 0 => by rw [Nat.zero_mul]; simp only [upto]; exact (upto_zero0 d).symm
  | q + 1 => by
    rw [Nat.succ_mul, upto_plus, upto_rows f d q]
    simp only [upto]
    rw [upto_add]
    congr 1
    exact upto_congr (fun k _ => by rw [Nat.add_comm])
/-- what a rhythm's beats sum to -/
def tot (n a : Nat) (g : Nat → Int) : Int := upto (fun k => if a.testBit k then g k else 0) n
theorem tot_congr {n a : Nat} {g h : Nat → Int} (e : ∀ k, k < n → g k = h k) : tot n a g = tot n a h := upto_congr (fun k hk => by rw [e k hk])
/-- s is a root of a -/
def zr (s n a : Nat) : Prop := ∀ m, tot n a (fun k => cS s (k + m)) = 0
theorem per_rows {n a d : Nat} (ha : a < 2 ^ n) (h : IsPer n a d) (g : Nat → Int) : tot n a g = upto (fun k => if a.testBit k then upto (fun j => g (k + j * d)) (n / d) else 0) d := by
  have hd := h.1
  have hn : n = n / d * d := (Nat.div_mul_cancel (Nat.dvd_of_mod_eq_zero h.2.2.1)).symm
  unfold tot
  conv => lhs; rw [hn]
  rw [upto_rows]
  refine upto_congr (fun k hk => ?_)
  have e : ∀ j, j < n / d → a.testBit (k + j * d) = a.testBit k := fun j hj => by
    have hlt : k + j * d < n := by
      have : (j + 1) * d ≤ n / d * d := Nat.mul_le_mul_right d hj
      rw [← hn, Nat.succ_mul] at this; omega
    exact per_bit ha h j k hlt
  cases hb : a.testBit k with
  | true => rw [if_pos rfl]; exact upto_congr (fun j hj => by rw [e j hj, hb, if_pos rfl])
  | false =>
    rw [if_neg (by simp)]
    exact (upto_congr (fun j hj => by rw [e j hj, hb, if_neg (by simp)])).trans (upto_zero0 (n / d))
theorem upto_const (c : Int) : ∀ q : Nat, upto (fun _ => c) q = (q : Int) * c
  | 0 => by simp [upto]
  | q + 1 => by rw [upto, upto_const c q, Int.natCast_add, Int.add_mul]; simp
theorem per_step {g : Nat → Int} {d : Nat} (hg : ∀ k, g (k + d) = g k) (k : Nat) : ∀ j, g (k + j * d) = g k
  | 0 => by rw [Nat.zero_mul, Nat.add_zero]
  | j + 1 => by rw [Nat.succ_mul, ← Nat.add_assoc, hg, per_step hg k j]
theorem tot_fold {n a d : Nat} (ha : a < 2 ^ n) (h : IsPer n a d) {g : Nat → Int} (hg : ∀ k, g (k + d) = g k) : tot n a g = ((n / d : Nat) : Int) * tot d (a &&& (2 ^ d - 1)) g := by
  rw [per_rows ha h]
  unfold tot
  rw [← upto_mul]
  refine upto_congr (fun k hk => ?_)
  rw [Nat.testBit_and, Nat.testBit_two_pow_sub_one, decide_eq_true hk, Bool.and_true]
  cases a.testBit k with
  | true =>
    rw [if_pos rfl, if_pos rfl, ← upto_const]
    exact upto_congr (fun j _ => per_step hg k j)
  | false => rw [if_neg (by simp), if_neg (by simp), Int.mul_zero]
theorem ram_rows : ((List.range 25).all fun n => (List.range n).all fun d => (List.range 25).all fun s => !(decide (n % (d + 1) = 0) && decide (n % s = 0) && decide (¬ (d + 1) % s = 0)) || (List.range s).all fun m => decide (upto (fun j => cS s (m + j * (d + 1))) (n / (d + 1)) = 0)) = true := by kernel_rfl
theorem ram_row {n d s : Nat} (hn : n ≤ 24) (hn1 : 1 ≤ n) (hd : 1 ≤ d) (hnd : n % d = 0) (hs1 : 1 ≤ s) (hns : n % s = 0) (hds : ¬ d % s = 0) (m : Nat) : upto (fun j => cS s (m + j * d)) (n / d) = 0 := by
  have hdn : d ≤ n := Nat.le_of_dvd (by omega) (Nat.dvd_of_mod_eq_zero hnd)
  have hsn : s ≤ n := Nat.le_of_dvd (by omega) (Nat.dvd_of_mod_eq_zero hns)
  have h := ram_rows
  simp only [List.all_eq_true, List.mem_range] at h
  have h := h n (by omega) (d - 1) (by omega) s (by omega)
  rw [show d - 1 + 1 = d by omega, decide_eq_true hnd, decide_eq_true hns, decide_eq_true hds, Bool.and_self, Bool.and_self, Bool.not_true, Bool.false_or, List.all_eq_true] at h
  have h := of_decide_eq_true (h (m % s) (List.mem_range.2 (Nat.mod_lt _ hs1)))
  rw [← h]
  refine upto_congr (fun j _ => ?_)
  rw [← cS_mod s (m + j * d), ← cS_mod s (m % s + j * d)]
  congr 1
  rw [Nat.mod_add_mod]
/-- a rhythm with a period has each root that does not divide it -/
theorem zr_per {n a d s : Nat} (hn : n ≤ 24) (hn1 : 1 ≤ n) (ha : a < 2 ^ n) (h : IsPer n a d) (hs1 : 1 ≤ s) (hns : n % s = 0) (hds : ¬ d % s = 0) : zr s n a := by
  intro m
  rw [per_rows ha h]
  refine (upto_congr (fun k _ => ?_)).trans (upto_zero0 d)
  cases a.testBit k with
  | false => rw [if_neg (by simp)]
  | true =>
    rw [if_pos rfl, ← ram_row hn hn1 h.1 h.2.2.1 hs1 hns hds (k + m)]
    exact upto_congr (fun j _ => by congr 1; omega)
theorem zr_fold {n a d s : Nat} (ha : a < 2 ^ n) (h : IsPer n a d) (hds : d % s = 0) (hz : zr s d (a &&& (2 ^ d - 1))) : zr s n a := by
  intro m
  rw [tot_fold ha h (fun k => by rw [show k + d + m = k + m + d by omega, cS_add hds]), hz m, Int.mul_zero]
theorem zr_fold' {n a d s : Nat} (ha : a < 2 ^ n) (h : IsPer n a d) (hds : d % s = 0) (hz : zr s n a) : zr s d (a &&& (2 ^ d - 1)) := by
  intro m
  have := hz m
  rw [tot_fold ha h (fun k => by rw [show k + d + m = k + m + d by omega, cS_add hds])] at this
  have hq : ((n / d : Nat) : Int) ≠ 0 := by
    have : 1 ≤ n / d := Nat.div_pos h.2.1 h.1
    omega
  exact (Int.mul_eq_zero.1 this).resolve_left hq
/-- the places of a tile are different in one period of the other one -/
theorem tile_apart {n a b d : Nat} (ha : a < 2 ^ n) (a0 : a.testBit 0 = true) (h : IsPer n a d) (ht : Tiled n a b) {y z : Nat} (hy : y < n) (hz : z < n) (by1 : b.testBit y = true) (bz : b.testBit z = true) (e : y % d = z % d) : y = z := by
  have hf := (tiled_fills.1 ht).2 y hy y hy z hz by1 bz (moveN_self ha a0 hy)
  refine hf ?_
  rw [move_fold ha h hy hz, ← e, ← move_fold ha h hy hy]
  exact moveN_self ha a0 hy
theorem fold_tile {n a b d : Nat} (ha : a < 2 ^ n) (h : IsPer n a d) (ht : Tiled n a b) : Tiled d (a &&& (2 ^ d - 1)) (modSet n d b) := by
  have hd := h.1
  have hdn := h.2.1
  rw [tiled_fills] at ht ⊢
  obtain ⟨h1, h2⟩ := ht
  refine ⟨fun x hx => ?_, fun x hx y hy z hz hy1 hz1 hy2 hz2 => ?_⟩
  · obtain ⟨y, hy, hcy, hm⟩ := h1 x (by omega)
    refine ⟨y % d, Nat.mod_lt _ hd, modSet_bit.2 ⟨y, hy, hcy, rfl⟩, ?_⟩
    rw [move_fold ha h (by omega) hy, Nat.mod_eq_of_lt hx] at hm; exact hm
  · obtain ⟨y', hy', hcy, rfl⟩ := modSet_bit.1 hy1
    obtain ⟨z', hz', hcz, rfl⟩ := modSet_bit.1 hz1
    have e1 := move_fold ha h (show x < n by omega) hy'
    have e2 := move_fold ha h (show x < n by omega) hz'
    rw [Nat.mod_eq_of_lt hx] at e1 e2
    rw [h2 x (by omega) y' hy' z' hz' hcy hcz (e1.trans hy2) (e2.trans hz2)]
theorem upto_one_of {p : Nat → Prop} [DecidablePred p] : ∀ q : Nat, (∀ i, i < q → ∀ j, j < q → p i → p j → i = j) → upto (fun j => if p j then (1 : Int) else 0) q = if ∃ j, j < q ∧ p j then 1 else 0
  | 0, _ => by rw [if_neg (by rintro ⟨j, h, _⟩; omega)]; rfl
  | q + 1, h => by
    have ih := upto_one_of q (fun i hi j hj => h i (by omega) j (by omega))
    rw [upto, ih]
    by_cases hq : p q
    · rw [if_pos hq, if_neg (by rintro ⟨j, hj, hp⟩; have := h j (by omega) q (by omega) hp hq; omega), if_pos ⟨q, by omega, hq⟩]; rfl
    · rw [if_neg hq]
      by_cases he : ∃ j, j < q ∧ p j
      · obtain ⟨j, hj, hp⟩ := he
        rw [if_pos ⟨j, hj, hp⟩, if_pos ⟨j, by omega, hp⟩]; rfl
      · rw [if_neg he, if_neg (by
          rintro ⟨j, hj, hp⟩
          rcases Nat.lt_or_ge j q with c | c
          · exact he ⟨j, c, hp⟩
          · rw [show j = q by omega] at hp; exact hq hp)]; rfl
theorem upto_mul_r (f : Nat → Int) (c : Int) (n : Nat) : upto (fun i => f i * c) n = upto f n * c := by
  rw [Int.mul_comm, ← upto_mul]; exact upto_congr (fun i _ => Int.mul_comm _ _)
theorem tot_mod {n b d : Nat} (hd : 1 ≤ d) (hnd : n % d = 0) (hap : ∀ y, y < n → ∀ z, z < n → b.testBit y = true → b.testBit z = true → y % d = z % d → y = z) {g : Nat → Int} (hg : ∀ k, g (k + d) = g k) : tot n b g = tot d (modSet n d b) g := by
  have hn : n = n / d * d := (Nat.div_mul_cancel (Nat.dvd_of_mod_eq_zero hnd)).symm
  have hlt : ∀ k j, k < d → j < n / d → k + j * d < n := fun k j hk hj => by
    have : (j + 1) * d ≤ n / d * d := Nat.mul_le_mul_right d hj
    rw [← hn, Nat.succ_mul] at this; omega
  have hkm : ∀ k j, k < d → (k + j * d) % d = k := fun k j hk => by rw [Nat.add_mul_mod_self_right, Nat.mod_eq_of_lt hk]
  unfold tot
  conv => lhs; rw [hn]
  rw [upto_rows]
  refine upto_congr (fun k hk => ?_)
  have e1 : upto (fun j => if b.testBit (k + j * d) = true then g (k + j * d) else 0) (n / d) = upto (fun j => (if b.testBit (k + j * d) = true then (1 : Int) else 0) * g k) (n / d) := upto_congr (fun j _ => by
    rw [per_step hg]; split <;> simp)
  rw [e1, upto_mul_r, upto_one_of (p := fun j => b.testBit (k + j * d) = true) (n / d) (fun i hi j hj h1 h2 => by
    have := hap _ (hlt k i hk hi) _ (hlt k j hk hj) h1 h2 (by rw [hkm k i hk, hkm k j hk])
    exact Nat.eq_of_mul_eq_mul_right hd (by omega))]
  have e2 : (∃ j, j < n / d ∧ b.testBit (k + j * d) = true) ↔ (modSet n d b).testBit k = true := by
    rw [modSet_bit]
    constructor
    · rintro ⟨j, hj, h1⟩; exact ⟨_, hlt k j hk hj, h1, hkm k j hk⟩
    · rintro ⟨y, hy, h1, h2⟩
      refine ⟨y / d, Nat.div_lt_div_of_lt_of_dvd (Nat.dvd_of_mod_eq_zero hnd) hy, ?_⟩
      rw [← h2, Nat.mul_comm, Nat.mod_add_div]; exact h1
  by_cases hm : (modSet n d b).testBit k = true
  · rw [if_pos (e2.2 hm), if_pos hm, Int.one_mul]
  · rw [if_neg (fun h => hm (e2.1 h)), if_neg hm, Int.zero_mul]
theorem zr_mod {n a b d s : Nat} (ha : a < 2 ^ n) (a0 : a.testBit 0 = true) (h : IsPer n a d) (ht : Tiled n a b) (hds : d % s = 0) : zr s n b ↔ zr s d (modSet n d b) := by
  have e : ∀ m, tot n b (fun k => cS s (k + m)) = tot d (modSet n d b) (fun k => cS s (k + m)) := fun m =>
    tot_mod h.1 h.2.2.1 (fun y hy z hz h1 h2 he => tile_apart ha a0 h ht hy hz h1 h2 he) (fun k => by rw [show k + d + m = k + m + d by omega, cS_add hds])
  exact ⟨fun hz m => by rw [← e m]; exact hz m, fun hz m => by rw [e m]; exact hz m⟩
theorem fold_bit0 {a d : Nat} (hd : 1 ≤ d) (a0 : a.testBit 0 = true) : (a &&& (2 ^ d - 1)).testBit 0 = true := by
  rw [Nat.testBit_and, Nat.testBit_two_pow_sub_one, a0, decide_eq_true (show 0 < d by omega)]; rfl
theorem fold_lt (a d : Nat) : a &&& (2 ^ d - 1) < 2 ^ d := by have := Nat.two_pow_pos d; have := @Nat.and_le_right a (2 ^ d - 1); omega
/-- **of two rhythms that fill the circle one has each divisor as a root** -/
theorem div_roots : ∀ n : Nat, 2 ≤ n → n ≤ 24 → ∀ a b : Nat, a < 2 ^ n → b < 2 ^ n → a.testBit 0 = true → b.testBit 0 = true → Tiled n a b → ∀ s, 2 ≤ s → n % s = 0 → zr s n a ∨ zr s n b := by
  intro n
  induction n using Nat.strongRecOn with
  | ind n ih =>
    intro h2 h24 a b ha hb a0 b0 ht s hs hns
    have side : ∀ a b, a < 2 ^ n → b < 2 ^ n → a.testBit 0 = true → b.testBit 0 = true → Tiled n a b → perB n a = true → zr s n a ∨ zr s n b := by
      intro a b ha hb a0 b0 ht hp
      obtain ⟨d, hdn, h⟩ := perB_iff.1 hp
      by_cases hds : d % s = 0
      · have hd2 : 2 ≤ d := Nat.le_trans hs (Nat.le_of_dvd h.1 (Nat.dvd_of_mod_eq_zero hds))
        rcases ih d hdn hd2 (by omega) _ _ (fold_lt a d) (modSet_lt h.1) (fold_bit0 h.1 a0) (modSet_bit.2 ⟨0, by omega, b0, Nat.zero_mod d⟩) (fold_tile ha h ht) s hs hds with hz | hz
        · exact .inl (zr_fold ha h hds hz)
        · exact .inr ((zr_mod ha a0 h ht hds).2 hz)
      · exact .inl (zr_per h24 (by omega) ha h (by omega) hns hds)
    rcases hajos h2 h24 ha hb a0 b0 ht with hp | hp
    · exact side a b ha hb a0 b0 ht hp
    · exact (side b a hb ha b0 a0 (tiled_symm ha hb ht) hp).symm
end Go.Proofs.Ytkidgakjeahebaa.P
namespace Go.Proofs.Ytkidgakjeahebaa.P
open Go.RowKit Go.Proofs.YtkidgakjeahebaaW.PrintWords Go.Proofs.YtkidgakjeahebaaW.PrintLast Go.Proofs.YtkidgakjeahebaaW.PrintMore
attribute [local go_sem] max2_int min2_int max_two min_two max_three min_three max_four min_four   -- for this text's walks alone
set_option linter.unusedVariables false
set_option linter.unusedSimpArgs false

/-! ### canon_Roots: function 20 -/
def canon_Roots.f (k : Nat) (a0 : Int) (a1 : Int) : Option (List Int × Int) := (canon_circle_valid.f a0 (([a1] : List Int))).bind fun t1004 => (if t1004 = true then ((canon_circle_roots.f k a0 a1).bind fun t1005 => (some (t1005, 0))) else (some (([] : List Int), 2)))
theorem canon_Roots.mono : ∀ a0 a1 k, LeO (canon_Roots.f k a0 a1) (canon_Roots.f (k + 1) a0 a1) := by
  intro a0 a1 k
  unfold canon_Roots.f
  repeat' first
      | (with_reducible exact canon_circle_roots.mono _ _ _)
      | (with_reducible exact LeO.refl _)
      | (with_reducible exact LeO.none _)
      | (with_reducible refine LeO.ite ?_ ?_)
      | (with_reducible refine LeO.bind ?_ (fun _ => ?_))
      | exact canon_circle_roots.mono _ _ _
      | exact LeO.none _
      | refine LeO.ite ?_ ?_
      | refine LeO.bind ?_ (fun _ => ?_)
set_option maxHeartbeats 8000000 in
set_option maxRecDepth 100000 in
theorem canon_Roots.calls (k : Nat) (a0 : Int) (a1 : Int) (r1 : List Int) (r2 : Int) (w : World) (h : canon_Roots.f k a0 a1 = some (r1, r2)) :
    Calls Try.prog 20 #[.int .i64 a0, .int .i64 a1] w fun e w' => ∃ v0_ : Value, e = .returned (.tuple #[v0_, .int .i64 r2]) ∧ Kd.R (Kd.int .i64) 3 w' w.heap.size (fun _ => True) v0_ r1 ∧ Below w.heap.size w w' := by
  have HB := Aside0.mk (Below.refl w.heap.size w)
  have H : ((canon_circle_valid.f a0 (([a1] : List Int))).bind fun t1004 => (if t1004 = true then ((canon_circle_roots.f k a0 a1).bind fun t1005 => (some (t1005, 0))) else (some (([] : List Int), 2)))) = some (r1, r2) := h
  clear h
  obtain ⟨y1001, hy1001⟩ : ∃ y_ : List Int, y_ = (([a1] : List Int)) := ⟨_, rfl⟩
  replace H : ((canon_circle_valid.f a0 y1001).bind fun t1004 => (if t1004 = true then ((canon_circle_roots.f k a0 a1).bind fun t1005 => (some (t1005, 0))) else (some (([] : List Int), 2)))) = some (r1, r2) := by first | (rw [hy1001]; with_reducible exact H) | (have H2_ := (Option.bind_some _ _).symm.trans H; rw [hy1001]; with_reducible exact H2_) | (have H2_ := (Option.bind_some _ _).symm.trans H; with_reducible exact H2_) | with_reducible exact H | (rw [hy1001]; exact H) | exact H
  have Ny1001 := Aside0.mk hy1001
  clear hy1001
  replace H := Option.bind_eq_some_iff.mp H
  obtain ⟨t1004, A30, H⟩ := H
  replace H : (if t1004 = true then ((canon_circle_roots.f k a0 a1).bind fun t1005 => (some (t1005, 0))) else (some (([] : List Int), 2))) = some (r1, r2) := H
  have A3 := Aside0.mk A30
  clear A30
  by_cases c4 : t1004 = true
  · subst c4
    have H1 : ((canon_circle_roots.f k a0 a1).bind fun t1005 => (some (t1005, 0))) = some (r1, r2) := by rw [if_pos rfl] at H; exact H
    clear H
    have H := H1
    clear H1
    replace H := Option.bind_eq_some_iff.mp H
    obtain ⟨t1005, A50, H⟩ := H
    replace H : (some (t1005, 0)) = some (r1, r2) := H
    have A5 := Aside0.mk A50
    clear A50
    simp only [Option.some.injEq, Prod.mk.injEq] at H
    obtain ⟨rfl, rfl⟩ := H
    go_enter Try.func20, Try.ntmps20
    go_wp2_with (first | ((with_reducible refine gate_dst (N := 8) rfl ?_); refine Kd.R_lit (Kd.int .i64) _ 3 ?hg (N := 8) ?hd (xs := ([a1] : List Int)) (inner := [.int .i64 a1]) (ok := fun _ => True) (okp := fun _ => True) ?hr ?hp (fun _ hk => hk) trivial (Below.refl _ _) (Nat.le_refl _) (by simp) ?_; (case hd => rfl); (case hg => rfl); (case hr => first | (go_simp; done) | (go_simp; rfl)); (case hp => exact (Reps.one (show Kd.M (Kd.int .i64) _ _ _ a1 [.int .i64 a1] from rfl) (Reps.none _ _))); intro v1002 w6 ho7 hb hg_ hnew_; clear hg_ hnew_; (first | rw [← Ny1001.out] at ho7 | (simp only [Int.reduceToNat] at ho7; rw [← Ny1001.out] at ho7)); have n0_ := Aside0.mk (Kd.R_lower ho7 (below_size (by repeat (first | (with_reducible first | exact HB.out | apply below_alloc | apply pw_below_drewN | apply below_drew1) | exact HB.out)))); have n1_ := Aside0.mk (below_step (by repeat (first | (with_reducible first | exact HB.out | apply below_alloc | apply pw_below_drewN | apply below_drew1) | exact HB.out)) hb); clear HB; have HO1003 := n0_; have HB := n1_; clear n0_ n1_; clear hb ho7; obtain ⟨Ao8, co8, eo8⟩ := Kd.R_slice HO1003.out; subst eo8) | ((with_reducible refine gate_callee (f := 30) rfl ?_); refine goesL_ (some 9) rfl rfl Try.func30 (by kernel_rfl) rfl #[.int .i64 a0, .slice Ao8 y1001.length co8] rfl (by (try simp only [List.map_toArray, List.map_cons, List.map_nil]); first | done | rfl | (simp only [List.length_drop, List.length_take]; rfl)) ?_; (with_reducible refine (canon_circle_valid.calls a0 _ _ y1001 true _ ?side1 ?side2 A3.out).mono ?_); (case side1 => repeat (first | exact (Kd.R_reads' HO1003.out).2.2 | (with_reducible refine Kd.C_alloc ?_ _) | (with_reducible refine Kd.C_drewN ?_ _) | (with_reducible refine Kd.C_drew ?_))); (case side2 => exact (Kd.R_reads' HO1003.out).2.1); rintro e w9 ⟨rfl, hb⟩; refine ⟨_, rfl, ?_⟩; have n0_ := Aside0.mk (Kd.R_below (by (with_reducible repeat (first | apply Kd.R_alloc | apply Kd.R_drewN | apply Kd.R_drew)); exact HO1003.out) hb); have n1_ := Aside0.mk (below_step (by repeat (first | (with_reducible first | exact HB.out | apply below_alloc | apply pw_below_drewN | apply below_drew1) | exact HB.out)) hb); clear HO1003; clear HB; have HO1003 := n0_; have HB := n1_; clear n0_ n1_; (try clear hb); (try clear hb2); (try clear hk); (try clear hi)) | ((with_reducible refine gate_callee (f := 36) rfl ?_); refine goesL_ (some 13) rfl rfl Try.func36 (by kernel_rfl) rfl #[.int .i64 a0, .int .i64 a1] rfl (by (try simp only [List.map_toArray, List.map_cons, List.map_nil]); first | done | rfl | (simp only [List.length_drop, List.length_take]; rfl)) ?_; (with_reducible refine (canon_circle_roots.calls k a0 a1 t1005 _ A5.out).mono ?_); rintro e w10 ⟨v1006, rfl, ho0, hb⟩; refine ⟨_, rfl, ?_⟩; have n0_ := Aside0.mk (Kd.R_elder' (by (with_reducible repeat (first | apply Kd.R_alloc | apply Kd.R_drewN | apply Kd.R_drew)); exact HO1003.out) (Kd.R_base ho0) hb); have n1_ := Aside0.mk (Kd.R_lower (Kd.R_new' ho0 (Kd.R_lt (by (with_reducible repeat (first | apply Kd.R_alloc | apply Kd.R_drewN | apply Kd.R_drew)); exact HO1003.out))) (below_size (by repeat (first | (with_reducible first | exact HB.out | apply below_alloc | apply pw_below_drewN | apply below_drew1) | exact HB.out)))); have n2_ := Aside0.mk (below_step (by repeat (first | (with_reducible first | exact HB.out | apply below_alloc | apply pw_below_drewN | apply below_drew1) | exact HB.out)) hb); clear HO1003; clear HB; have HO1003 := n0_; have HO1007 := n1_; have HB := n2_; clear n0_ n1_ n2_; (try clear hb); (try clear hb2); (try clear hk); (try clear hi); (try clear ho0)))
    go_ret2
    exact ⟨_, by first | rfl | (simp [errW_none, errW_some] <;> rfl) | (simp [*, errW_none, errW_some] <;> rfl), by (with_reducible repeat (first | apply Kd.R_alloc | apply Kd.R_drewN | apply Kd.R_drew)); exact Kd.R_mono HO1007.out (fun _ hk => trivial), by repeat (first | (with_reducible first | exact HB.out | apply below_alloc | apply pw_below_drewN | apply below_drew1) | exact HB.out)⟩
  · replace c4 := Bool.eq_false_iff.mpr c4
    subst c4
    have H1 : (some (([] : List Int), 2)) = some (r1, r2) := by rw [if_neg (show ¬ (false = true) by decide)] at H; exact H
    clear H
    have H := H1
    clear H1
    simp only [Option.some.injEq, Prod.mk.injEq] at H
    obtain ⟨rfl, rfl⟩ := H
    go_enter Try.func20, Try.ntmps20
    go_wp2_with (first | ((with_reducible refine gate_dst (N := 8) rfl ?_); refine Kd.R_lit (Kd.int .i64) _ 3 ?hg (N := 8) ?hd (xs := ([a1] : List Int)) (inner := [.int .i64 a1]) (ok := fun _ => True) (okp := fun _ => True) ?hr ?hp (fun _ hk => hk) trivial (Below.refl _ _) (Nat.le_refl _) (by simp) ?_; (case hd => rfl); (case hg => rfl); (case hr => first | (go_simp; done) | (go_simp; rfl)); (case hp => exact (Reps.one (show Kd.M (Kd.int .i64) _ _ _ a1 [.int .i64 a1] from rfl) (Reps.none _ _))); intro v1002 w11 ho12 hb hg_ hnew_; clear hg_ hnew_; (first | rw [← Ny1001.out] at ho12 | (simp only [Int.reduceToNat] at ho12; rw [← Ny1001.out] at ho12)); have n0_ := Aside0.mk (Kd.R_lower ho12 (below_size (by repeat (first | (with_reducible first | exact HB.out | apply below_alloc | apply pw_below_drewN | apply below_drew1) | exact HB.out)))); have n1_ := Aside0.mk (below_step (by repeat (first | (with_reducible first | exact HB.out | apply below_alloc | apply pw_below_drewN | apply below_drew1) | exact HB.out)) hb); clear HB; have HO1003 := n0_; have HB := n1_; clear n0_ n1_; clear hb ho12; obtain ⟨Ao13, co13, eo13⟩ := Kd.R_slice HO1003.out; subst eo13) | ((with_reducible refine gate_callee (f := 30) rfl ?_); refine goesL_ (some 9) rfl rfl Try.func30 (by kernel_rfl) rfl #[.int .i64 a0, .slice Ao13 y1001.length co13] rfl (by (try simp only [List.map_toArray, List.map_cons, List.map_nil]); first | done | rfl | (simp only [List.length_drop, List.length_take]; rfl)) ?_; (with_reducible refine (canon_circle_valid.calls a0 _ _ y1001 false _ ?side1 ?side2 A3.out).mono ?_); (case side1 => repeat (first | exact (Kd.R_reads' HO1003.out).2.2 | (with_reducible refine Kd.C_alloc ?_ _) | (with_reducible refine Kd.C_drewN ?_ _) | (with_reducible refine Kd.C_drew ?_))); (case side2 => exact (Kd.R_reads' HO1003.out).2.1); rintro e w14 ⟨rfl, hb⟩; refine ⟨_, rfl, ?_⟩; have n0_ := Aside0.mk (Kd.R_below (by (with_reducible repeat (first | apply Kd.R_alloc | apply Kd.R_drewN | apply Kd.R_drew)); exact HO1003.out) hb); have n1_ := Aside0.mk (below_step (by repeat (first | (with_reducible first | exact HB.out | apply below_alloc | apply pw_below_drewN | apply below_drew1) | exact HB.out)) hb); clear HO1003; clear HB; have HO1003 := n0_; have HB := n1_; clear n0_ n1_; (try clear hb); (try clear hb2); (try clear hk); (try clear hi)))
    go_ret2
    exact ⟨_, by first | rfl | (simp [errW_none, errW_some] <;> rfl) | (simp [*, errW_none, errW_some] <;> rfl), by first | exact Kd.R_nil _ _ _ _ _ | exact Kd.N_nil _ _ _ _ _ | exact Kd.V_nil _ _ _ _ _ | exact Kd.Q_nil _ _ _ _ _ | exact Kd.S_nil _ _ _ _ _, by repeat (first | (with_reducible first | exact HB.out | apply below_alloc | apply pw_below_drewN | apply below_drew1) | exact HB.out)⟩

end Go.Proofs.Ytkidgakjeahebaa.P
namespace Go.Proofs.Ytkidgakjeahebaa.P
open Go.RowKit Go.Proofs.YtkidgakjeahebaaW.PrintWords Go.Proofs.YtkidgakjeahebaaW.PrintLast Go.Proofs.YtkidgakjeahebaaW.PrintMore
attribute [local go_sem] max2_int min2_int max_two min_two max_three min_three max_four min_four   -- for this text's walks alone
set_option linter.unusedVariables false
set_option linter.unusedSimpArgs false

/-! ### slices_Index_int_int: function 37 -/
def slices_Index_int_int.l0 : Nat → List Int → Int → Int → Int → Option (Int)
  | 0, _, _, _, _ => none
  | k + 1, x0, x1, x7, x8 => if x8 < x7 then (if 0 ≤ x8 then (if x8 < (x0.length : Int) then (if x1 = (rd x0 x8) then (some x8) else (slices_Index_int_int.l0 k x0 x1 x7 (wrap64 (x8 + 1)))) else (none)) else (none)) else (some (-1))
def slices_Index_int_int.f (k : Nat) (l0 : List Int) (a1 : Int) : Option (Int) := slices_Index_int_int.l0 k l0 a1 (l0.length : Int) 0
theorem slices_Index_int_int.mono_l : ∀ k, (∀ y0 y1 y2 y3, LeO (slices_Index_int_int.l0 k y0 y1 y2 y3) (slices_Index_int_int.l0 (k + 1) y0 y1 y2 y3))
  | 0 => fun _ _ _ _ r h => by simp [slices_Index_int_int.l0] at h
  | k + 1 => by
    have ih0 := slices_Index_int_int.mono_l k
    · intro y0 y1 y2 y3
      unfold slices_Index_int_int.l0
      repeat' first
      | (with_reducible exact ih0 _ _ _ _)
      | (with_reducible exact LeO.refl _)
      | (with_reducible exact LeO.none _)
      | (with_reducible refine LeO.ite ?_ ?_)
      | (with_reducible refine LeO.bind ?_ (fun _ => ?_))
      | exact ih0 _ _ _ _
      | exact LeO.none _
      | refine LeO.ite ?_ ?_
      | refine LeO.bind ?_ (fun _ => ?_)
theorem slices_Index_int_int.mono : ∀ a0 a1 k, LeO (slices_Index_int_int.f k a0 a1) (slices_Index_int_int.f (k + 1) a0 a1) := by
  intro a0 a1 k
  have ih0 := slices_Index_int_int.mono_l k
  unfold slices_Index_int_int.f
  repeat' first
      | (with_reducible exact ih0 _ _ _ _)
      | (with_reducible exact LeO.refl _)
      | (with_reducible exact LeO.none _)
      | (with_reducible refine LeO.ite ?_ ?_)
      | (with_reducible refine LeO.bind ?_ (fun _ => ?_))
      | exact ih0 _ _ _ _
      | exact LeO.none _
      | refine LeO.ite ?_ ?_
      | refine LeO.bind ?_ (fun _ => ?_)
set_option maxHeartbeats 8000000 in
set_option maxRecDepth 100000 in
theorem slices_Index_int_int.calls (k : Nat) (A0 : Option Addr) (c0 : Nat) (l0 : List Int) (a1 : Int) (r : Int) (w : World) (hr0 : Kd.C (Kd.int .i64) w A0 l0.length l0) (hc0 : l0.length ≤ c0) (h : slices_Index_int_int.f k l0 a1 = some r) :
    Calls Try.prog 37 #[.slice A0 l0.length c0, .int .i64 a1] w fun e w' => e = .returned (.int .i64 r) ∧ Drawn0 w w' := by
  have HR0 := Aside0.mk hr0
  have HC0 := Aside0.mk hc0
  clear hr0 hc0
  have H : (slices_Index_int_int.l0 k l0 a1 (l0.length : Int) 0) = some r := h
  clear h
  have H' := Aside0.mk H
  clear H
  go_enter Try.func37, Try.ntmps37
  go_wp2
  go_loopg [8] k (fun kq v8 w' => ∃ (x8_1 : Int), v8 = .int .i64 x8_1 ∧ Aside0 (slices_Index_int_int.l0 kq l0 a1 (l0.length : Int) x8_1 = some r) ∧ Aside0 (kq ≤ k) ∧ Drawn0 w w')
  case atStart => exact ⟨(0), (by first | rfl | (simp; done) | (simp [*]; done)), H', ⟨Nat.le_refl _⟩, by repeat (first | exact Drawn0.refl _ | apply Drawn0.step)⟩
  case round =>
    clear H'
    try clear p2
    obtain ⟨x8_1, rfl, HA, HK1, ⟨m1, rfl⟩⟩ := hrel
    cases gk with
    | zero => exact absurd HA.out (by simp [slices_Index_int_int.l0])
    | succ k1 =>
      have H := HA.out
      clear HA
      simp only [slices_Index_int_int.l0] at H
      by_cases c3 : x8_1 < (l0.length : Int)
      · rw [if_pos c3] at H
        have c3b0 : decide (x8_1 < (l0.length : Int)) = true := decide_eq_true c3
        clear c3
        by_cases c4 : 0 ≤ x8_1
        · rw [if_pos c4] at H
          have c4b0 : decide (0 ≤ x8_1) = true := decide_eq_true c4
          clear c4
          by_cases c5 : x8_1 < (l0.length : Int)
          · rw [if_pos c5] at H
            have c5b0 : decide (x8_1 < (l0.length : Int)) = true := decide_eq_true c5
            clear c5
            by_cases c6 : a1 = (rd l0 x8_1)
            · rw [if_pos c6] at H
              have c6b0 : (a1 == (rd l0 x8_1)) = true := beq_iff_eq.mpr c6
              have c6b1 : (a1 != (rd l0 x8_1)) = false := bne_eq_false_iff_eq.mpr c6
              clear c6
              obtain rfl := Option.some.inj H
              have p1001 : 0 ≤ (x8_1 : Int) := of_decide_eq_true (by first | (with_reducible assumption) | assumption)
              have q1001 : x8_1 < (l0.length : Int) := of_decide_eq_true (by first | (with_reducible assumption) | assumption)
              obtain ⟨ad1001, e1001, hx1001_0⟩ := Kd.at_int HR0.out x8_1 p1001 q1001
              cases e1001
              replace p1001 := eq_true p1001
              replace q1001 := eq_true q1001
              go_wp2
              go_ret
              exact ⟨by first | rfl | (simp; done) | (simp [*]; done), by repeat (first | exact Drawn0.refl _ | apply Drawn0.step)⟩
            · rw [if_neg c6] at H
              have c6b0 : (a1 == (rd l0 x8_1)) = false := beq_eq_false_iff_ne.mpr c6
              have c6b1 : (a1 != (rd l0 x8_1)) = true := bne_iff_ne.mpr c6
              have H' := Aside0.mk H
              clear H
              have p1001 : 0 ≤ (x8_1 : Int) := of_decide_eq_true (by first | (with_reducible assumption) | assumption)
              have q1001 : x8_1 < (l0.length : Int) := of_decide_eq_true (by first | (with_reducible assumption) | assumption)
              obtain ⟨ad1001, e1001, hx1001_0⟩ := Kd.at_int HR0.out x8_1 p1001 q1001
              cases e1001
              replace p1001 := eq_true p1001
              replace q1001 := eq_true q1001
              go_wp2
              go_roundg k1
              case measure => have := HK1.out; omega
              case rel => exact ⟨(wrap64 (x8_1 + 1)), (by first | rfl | (simp; done) | (simp [*]; done)), H', ⟨by have := HK1.out; omega⟩, by repeat (first | exact Drawn0.refl _ | apply Drawn0.step)⟩
          · rw [if_neg c5] at H
            exact absurd H (by simp)
        · rw [if_neg c4] at H
          exact absurd H (by simp)
      · rw [if_neg c3] at H
        have c3b0 : decide (x8_1 < (l0.length : Int)) = false := decide_eq_false c3
        clear c3
        obtain rfl := Option.some.inj H
        go_wp2
        go_ret
        exact ⟨by first | rfl | (simp; done) | (simp [*]; done), by repeat (first | exact Drawn0.refl _ | apply Drawn0.step)⟩

end Go.Proofs.Ytkidgakjeahebaa.P
namespace Go.Proofs.Ytkidgakjeahebaa.P
open Go.RowKit Go.Proofs.YtkidgakjeahebaaW.PrintWords Go.Proofs.YtkidgakjeahebaaW.PrintLast Go.Proofs.YtkidgakjeahebaaW.PrintMore
attribute [local go_sem] max2_int min2_int max_two min_two max_three min_three max_four min_four   -- for this text's walks alone
set_option linter.unusedVariables false
set_option linter.unusedSimpArgs false

/-! ### slices_Contains_int_int: function 21 -/
def slices_Contains_int_int.f (k : Nat) (l0 : List Int) (a1 : Int) : Option (Bool) := (slices_Index_int_int.f k l0 a1).bind fun t1001 => (some (decide (t1001 ≥ 0)))
theorem slices_Contains_int_int.mono : ∀ a0 a1 k, LeO (slices_Contains_int_int.f k a0 a1) (slices_Contains_int_int.f (k + 1) a0 a1) := by
  intro a0 a1 k
  unfold slices_Contains_int_int.f
  repeat' first
      | (with_reducible exact slices_Index_int_int.mono _ _ _)
      | (with_reducible exact LeO.refl _)
      | (with_reducible exact LeO.none _)
      | (with_reducible refine LeO.ite ?_ ?_)
      | (with_reducible refine LeO.bind ?_ (fun _ => ?_))
      | exact slices_Index_int_int.mono _ _ _
      | exact LeO.none _
      | refine LeO.ite ?_ ?_
      | refine LeO.bind ?_ (fun _ => ?_)
set_option maxHeartbeats 8000000 in
set_option maxRecDepth 100000 in
theorem slices_Contains_int_int.calls (k : Nat) (A0 : Option Addr) (c0 : Nat) (l0 : List Int) (a1 : Int) (r : Bool) (w : World) (hr0 : Kd.C (Kd.int .i64) w A0 l0.length l0) (hc0 : l0.length ≤ c0) (h : slices_Contains_int_int.f k l0 a1 = some r) :
    Calls Try.prog 21 #[.slice A0 l0.length c0, .int .i64 a1] w fun e w' => e = .returned (.bool r) ∧ Drawn0 w w' := by
  have HR0 := Aside0.mk hr0
  have HC0 := Aside0.mk hc0
  clear hr0 hc0
  have H : ((slices_Index_int_int.f k l0 a1).bind fun t1001 => (some (decide (t1001 ≥ 0)))) = some r := h
  clear h
  replace H := Option.bind_eq_some_iff.mp H
  obtain ⟨t1001, A30, H⟩ := H
  replace H : (some (decide (t1001 ≥ 0))) = some r := H
  have A3 := Aside0.mk A30
  clear A30
  obtain rfl := Option.some.inj H
  go_enter Try.func21, Try.ntmps21
  go_wp2_with (first | ((with_reducible refine gate_callee (f := 37) rfl ?_); refine goesL_ (some 7) rfl rfl Try.func37 (by kernel_rfl) rfl #[.slice A0 l0.length c0, .int .i64 a1] rfl (by (try simp only [List.map_toArray, List.map_cons, List.map_nil]); first | done | rfl | (simp only [List.length_drop, List.length_take]; rfl)) ?_; (with_reducible refine (slices_Index_int_int.calls k _ _ l0 a1 t1001 _ ?side1 ?side2 A3.out).mono ?_); (case side1 => repeat (first | exact HR0.out | (with_reducible refine Kd.C_alloc ?_ _) | (with_reducible refine Kd.C_drewN ?_ _) | (with_reducible refine Kd.C_drew ?_))); (case side2 => exact HC0.out); rintro e w' ⟨rfl, ⟨nd, rfl⟩⟩; refine ⟨_, rfl, ?_⟩))
  go_ret
  exact ⟨by first | rfl | (simp; done) | (simp [*]; done), by repeat (first | exact Drawn0.refl _ | apply Drawn0.step)⟩

end Go.Proofs.Ytkidgakjeahebaa.P
namespace Go.Proofs.Ytkidgakjeahebaa.P
open Go.RowKit Go.Proofs.YtkidgakjeahebaaW.PrintWords Go.Proofs.YtkidgakjeahebaaW.PrintLast Go.Proofs.YtkidgakjeahebaaW.PrintMore
attribute [local go_sem] max2_int min2_int max_two min_two max_three min_three max_four min_four   -- for this text's walks alone
set_option linter.unusedVariables false
set_option linter.unusedSimpArgs false

/-! slices.Index, slices.Contains at ints -/
theorem Index_loop (l : List Int) (v : Int) (hb : l.length < 9223372036854775807) : ∀ (xs pre : List Int), l = pre ++ xs →
    Ev (fun k => slices_Index_int_int.l0 k l v (l.length : Int) (pre.length : Int)) (if v ∈ xs then ((pre.length + xs.idxOf v : Nat) : Int) else -1) := by
  intro xs
  induction xs with
  | nil =>
    intro pre h0
    refine Ev.succ ?_
    simp only [slices_Index_int_int.l0, if_neg (mid_end h0)]
    simpa using Ev.some (-1 : Int)
  | cons x xs ih =>
    intro pre h0
    refine Ev.succ ?_
    simp only [slices_Index_int_int.l0, if_pos (mid_lt h0), if_pos (show (0 : Int) ≤ (pre.length : Int) by omega), mid_rd h0, mid_next h0 hb]
    refine Ev.ite (fun e => ?_) (fun e => ?_)
    · subst e
      simpa using Ev.some _
    · have h := ih (pre ++ [x]) (mid_mv h0)
      have e1 : (v ∈ x :: xs) ↔ v ∈ xs := by simp [e]
      have e2 : (x :: xs).idxOf v = xs.idxOf v + 1 := by
        rw [List.idxOf_cons]
        have : (x == v) = false := by simpa using fun h => e h.symm
        rw [this]; rfl
      have e3 : ((pre ++ [x]).length + xs.idxOf v : Nat) = pre.length + (xs.idxOf v + 1) := by simp; omega
      simp only [e1, e2]
      rw [e3] at h
      exact h
theorem Index_ev (l : List Int) (v : Int) (hb : l.length < 9223372036854775807) : Ev (fun k => slices_Index_int_int.f k l v) (if v ∈ l then (l.idxOf v : Int) else -1) := by
  have := Index_loop l v hb l [] rfl
  simpa [slices_Index_int_int.f] using this
theorem Contains_ev (l : List Int) (v : Int) (hb : l.length < 9223372036854775807) : Ev (fun k => slices_Contains_int_int.f k l v) (decide (v ∈ l)) := by
  unfold slices_Contains_int_int.f
  refine Ev.bind (Index_ev l v hb) ?_
  have : decide ((if v ∈ l then (l.idxOf v : Int) else -1) ≥ 0) = decide (v ∈ l) := by
    rw [decide_eq_decide]; split <;> simp_all
  rw [this]
  exact Ev.some _

end Go.Proofs.Ytkidgakjeahebaa.P
namespace Go.Proofs.Ytkidgakjeahebaa.P
open Go.RowKit Go.Proofs.YtkidgakjeahebaaW.PrintWords Go.Proofs.YtkidgakjeahebaaW.PrintLast Go.Proofs.YtkidgakjeahebaaW.PrintMore
attribute [local go_sem] max2_int min2_int max_two min_two max_three min_three max_four min_four   -- for this text's walks alone
set_option linter.unusedVariables false
set_option linter.unusedSimpArgs false

/-! a root by division is a root by sums -/
def tT : List (List (List Int)) := [[], [[1]], [[1], [-1]], [[1, 0], [0, 1], [-1, -1]], [[1, 0], [0, 1], [-1, 0], [0, -1]], [[1, 0, 0, 0], [0, 1, 0, 0], [0, 0, 1, 0], [0, 0, 0, 1], [-1, -1, -1, -1]], [[1, 0], [0, 1], [-1, 1], [-1, 0], [0, -1], [1, -1]], [[1, 0, 0, 0, 0, 0], [0, 1, 0, 0, 0, 0], [0, 0, 1, 0, 0, 0], [0, 0, 0, 1, 0, 0], [0, 0, 0, 0, 1, 0], [0, 0, 0, 0, 0, 1], [-1, -1, -1, -1, -1, -1]], [[1, 0, 0, 0], [0, 1, 0, 0], [0, 0, 1, 0], [0, 0, 0, 1], [-1, 0, 0, 0], [0, -1, 0, 0], [0, 0, -1, 0], [0, 0, 0, -1]], [[1, 0, 0, 0, 0, 0], [0, 1, 0, 0, 0, 0], [0, 0, 1, 0, 0, 0], [0, 0, 0, 1, 0, 0], [0, 0, 0, 0, 1, 0], [0, 0, 0, 0, 0, 1], [-1, 0, 0, -1, 0, 0], [0, -1, 0, 0, -1, 0], [0, 0, -1, 0, 0, -1]], [[1, 0, 0, 0], [0, 1, 0, 0], [0, 0, 1, 0], [0, 0, 0, 1], [-1, 1, -1, 1], [-1, 0, 0, 0], [0, -1, 0, 0], [0, 0, -1, 0], [0, 0, 0, -1], [1, -1, 1, -1]], [[1, 0, 0, 0, 0, 0, 0, 0, 0, 0], [0, 1, 0, 0, 0, 0, 0, 0, 0, 0], [0, 0, 1, 0, 0, 0, 0, 0, 0, 0], [0, 0, 0, 1, 0, 0, 0, 0, 0, 0], [0, 0, 0, 0, 1, 0, 0, 0, 0, 0], [0, 0, 0, 0, 0, 1, 0, 0, 0, 0], [0, 0, 0, 0, 0, 0, 1, 0, 0, 0], [0, 0, 0, 0, 0, 0, 0, 1, 0, 0], [0, 0, 0, 0, 0, 0, 0, 0, 1, 0], [0, 0, 0, 0, 0, 0, 0, 0, 0, 1], [-1, -1, -1, -1, -1, -1, -1, -1, -1, -1]], [[1, 0, 0, 0], [0, 1, 0, 0], [0, 0, 1, 0], [0, 0, 0, 1], [-1, 0, 1, 0], [0, -1, 0, 1], [-1, 0, 0, 0], [0, -1, 0, 0], [0, 0, -1, 0], [0, 0, 0, -1], [1, 0, -1, 0], [0, 1, 0, -1]], [[1, 0, 0, 0, 0, 0, 0, 0, 0, 0, 0, 0], [0, 1, 0, 0, 0, 0, 0, 0, 0, 0, 0, 0], [0, 0, 1, 0, 0, 0, 0, 0, 0, 0, 0, 0], [0, 0, 0, 1, 0, 0, 0, 0, 0, 0, 0, 0], [0, 0, 0, 0, 1, 0, 0, 0, 0, 0, 0, 0], [0, 0, 0, 0, 0, 1, 0, 0, 0, 0, 0, 0], [0, 0, 0, 0, 0, 0, 1, 0, 0, 0, 0, 0], [0, 0, 0, 0, 0, 0, 0, 1, 0, 0, 0, 0], [0, 0, 0, 0, 0, 0, 0, 0, 1, 0, 0, 0], [0, 0, 0, 0, 0, 0, 0, 0, 0, 1, 0, 0], [0, 0, 0, 0, 0, 0, 0, 0, 0, 0, 1, 0], [0, 0, 0, 0, 0, 0, 0, 0, 0, 0, 0, 1], [-1, -1, -1, -1, -1, -1, -1, -1, -1, -1, -1, -1]], [[1, 0, 0, 0, 0, 0], [0, 1, 0, 0, 0, 0], [0, 0, 1, 0, 0, 0], [0, 0, 0, 1, 0, 0], [0, 0, 0, 0, 1, 0], [0, 0, 0, 0, 0, 1], [-1, 1, -1, 1, -1, 1], [-1, 0, 0, 0, 0, 0], [0, -1, 0, 0, 0, 0], [0, 0, -1, 0, 0, 0], [0, 0, 0, -1, 0, 0], [0, 0, 0, 0, -1, 0], [0, 0, 0, 0, 0, -1], [1, -1, 1, -1, 1, -1]], [[1, 0, 0, 0, 0, 0, 0, 0], [0, 1, 0, 0, 0, 0, 0, 0], [0, 0, 1, 0, 0, 0, 0, 0], [0, 0, 0, 1, 0, 0, 0, 0], [0, 0, 0, 0, 1, 0, 0, 0], [0, 0, 0, 0, 0, 1, 0, 0], [0, 0, 0, 0, 0, 0, 1, 0], [0, 0, 0, 0, 0, 0, 0, 1], [-1, 1, 0, -1, 1, -1, 0, 1], [-1, 0, 1, -1, 0, 0, -1, 1], [-1, 0, 0, 0, 0, -1, 0, 0], [0, -1, 0, 0, 0, 0, -1, 0], [0, 0, -1, 0, 0, 0, 0, -1], [1, -1, 0, 0, -1, 1, 0, -1], [1, 0, -1, 1, -1, 0, 1, -1]], [[1, 0, 0, 0, 0, 0, 0, 0], [0, 1, 0, 0, 0, 0, 0, 0], [0, 0, 1, 0, 0, 0, 0, 0], [0, 0, 0, 1, 0, 0, 0, 0], [0, 0, 0, 0, 1, 0, 0, 0], [0, 0, 0, 0, 0, 1, 0, 0], [0, 0, 0, 0, 0, 0, 1, 0], [0, 0, 0, 0, 0, 0, 0, 1], [-1, 0, 0, 0, 0, 0, 0, 0], [0, -1, 0, 0, 0, 0, 0, 0], [0, 0, -1, 0, 0, 0, 0, 0], [0, 0, 0, -1, 0, 0, 0, 0], [0, 0, 0, 0, -1, 0, 0, 0], [0, 0, 0, 0, 0, -1, 0, 0], [0, 0, 0, 0, 0, 0, -1, 0], [0, 0, 0, 0, 0, 0, 0, -1]], [[1, 0, 0, 0, 0, 0, 0, 0, 0, 0, 0, 0, 0, 0, 0, 0], [0, 1, 0, 0, 0, 0, 0, 0, 0, 0, 0, 0, 0, 0, 0, 0], [0, 0, 1, 0, 0, 0, 0, 0, 0, 0, 0, 0, 0, 0, 0, 0], [0, 0, 0, 1, 0, 0, 0, 0, 0, 0, 0, 0, 0, 0, 0, 0], [0, 0, 0, 0, 1, 0, 0, 0, 0, 0, 0, 0, 0, 0, 0, 0], [0, 0, 0, 0, 0, 1, 0, 0, 0, 0, 0, 0, 0, 0, 0, 0], [0, 0, 0, 0, 0, 0, 1, 0, 0, 0, 0, 0, 0, 0, 0, 0], [0, 0, 0, 0, 0, 0, 0, 1, 0, 0, 0, 0, 0, 0, 0, 0], [0, 0, 0, 0, 0, 0, 0, 0, 1, 0, 0, 0, 0, 0, 0, 0], [0, 0, 0, 0, 0, 0, 0, 0, 0, 1, 0, 0, 0, 0, 0, 0], [0, 0, 0, 0, 0, 0, 0, 0, 0, 0, 1, 0, 0, 0, 0, 0], [0, 0, 0, 0, 0, 0, 0, 0, 0, 0, 0, 1, 0, 0, 0, 0], [0, 0, 0, 0, 0, 0, 0, 0, 0, 0, 0, 0, 1, 0, 0, 0], [0, 0, 0, 0, 0, 0, 0, 0, 0, 0, 0, 0, 0, 1, 0, 0], [0, 0, 0, 0, 0, 0, 0, 0, 0, 0, 0, 0, 0, 0, 1, 0], [0, 0, 0, 0, 0, 0, 0, 0, 0, 0, 0, 0, 0, 0, 0, 1], [-1, -1, -1, -1, -1, -1, -1, -1, -1, -1, -1, -1, -1, -1, -1, -1]], [[1, 0, 0, 0, 0, 0], [0, 1, 0, 0, 0, 0], [0, 0, 1, 0, 0, 0], [0, 0, 0, 1, 0, 0], [0, 0, 0, 0, 1, 0], [0, 0, 0, 0, 0, 1], [-1, 0, 0, 1, 0, 0], [0, -1, 0, 0, 1, 0], [0, 0, -1, 0, 0, 1], [-1, 0, 0, 0, 0, 0], [0, -1, 0, 0, 0, 0], [0, 0, -1, 0, 0, 0], [0, 0, 0, -1, 0, 0], [0, 0, 0, 0, -1, 0], [0, 0, 0, 0, 0, -1], [1, 0, 0, -1, 0, 0], [0, 1, 0, 0, -1, 0], [0, 0, 1, 0, 0, -1]], [[1, 0, 0, 0, 0, 0, 0, 0, 0, 0, 0, 0, 0, 0, 0, 0, 0, 0], [0, 1, 0, 0, 0, 0, 0, 0, 0, 0, 0, 0, 0, 0, 0, 0, 0, 0], [0, 0, 1, 0, 0, 0, 0, 0, 0, 0, 0, 0, 0, 0, 0, 0, 0, 0], [0, 0, 0, 1, 0, 0, 0, 0, 0, 0, 0, 0, 0, 0, 0, 0, 0, 0], [0, 0, 0, 0, 1, 0, 0, 0, 0, 0, 0, 0, 0, 0, 0, 0, 0, 0], [0, 0, 0, 0, 0, 1, 0, 0, 0, 0, 0, 0, 0, 0, 0, 0, 0, 0], [0, 0, 0, 0, 0, 0, 1, 0, 0, 0, 0, 0, 0, 0, 0, 0, 0, 0], [0, 0, 0, 0, 0, 0, 0, 1, 0, 0, 0, 0, 0, 0, 0, 0, 0, 0], [0, 0, 0, 0, 0, 0, 0, 0, 1, 0, 0, 0, 0, 0, 0, 0, 0, 0], [0, 0, 0, 0, 0, 0, 0, 0, 0, 1, 0, 0, 0, 0, 0, 0, 0, 0], [0, 0, 0, 0, 0, 0, 0, 0, 0, 0, 1, 0, 0, 0, 0, 0, 0, 0], [0, 0, 0, 0, 0, 0, 0, 0, 0, 0, 0, 1, 0, 0, 0, 0, 0, 0], [0, 0, 0, 0, 0, 0, 0, 0, 0, 0, 0, 0, 1, 0, 0, 0, 0, 0], [0, 0, 0, 0, 0, 0, 0, 0, 0, 0, 0, 0, 0, 1, 0, 0, 0, 0], [0, 0, 0, 0, 0, 0, 0, 0, 0, 0, 0, 0, 0, 0, 1, 0, 0, 0], [0, 0, 0, 0, 0, 0, 0, 0, 0, 0, 0, 0, 0, 0, 0, 1, 0, 0], [0, 0, 0, 0, 0, 0, 0, 0, 0, 0, 0, 0, 0, 0, 0, 0, 1, 0], [0, 0, 0, 0, 0, 0, 0, 0, 0, 0, 0, 0, 0, 0, 0, 0, 0, 1], [-1, -1, -1, -1, -1, -1, -1, -1, -1, -1, -1, -1, -1, -1, -1, -1, -1, -1]], [[1, 0, 0, 0, 0, 0, 0, 0], [0, 1, 0, 0, 0, 0, 0, 0], [0, 0, 1, 0, 0, 0, 0, 0], [0, 0, 0, 1, 0, 0, 0, 0], [0, 0, 0, 0, 1, 0, 0, 0], [0, 0, 0, 0, 0, 1, 0, 0], [0, 0, 0, 0, 0, 0, 1, 0], [0, 0, 0, 0, 0, 0, 0, 1], [-1, 0, 1, 0, -1, 0, 1, 0], [0, -1, 0, 1, 0, -1, 0, 1], [-1, 0, 0, 0, 0, 0, 0, 0], [0, -1, 0, 0, 0, 0, 0, 0], [0, 0, -1, 0, 0, 0, 0, 0], [0, 0, 0, -1, 0, 0, 0, 0], [0, 0, 0, 0, -1, 0, 0, 0], [0, 0, 0, 0, 0, -1, 0, 0], [0, 0, 0, 0, 0, 0, -1, 0], [0, 0, 0, 0, 0, 0, 0, -1], [1, 0, -1, 0, 1, 0, -1, 0], [0, 1, 0, -1, 0, 1, 0, -1]], [[1, 0, 0, 0, 0, 0, 0, 0, 0, 0, 0, 0], [0, 1, 0, 0, 0, 0, 0, 0, 0, 0, 0, 0], [0, 0, 1, 0, 0, 0, 0, 0, 0, 0, 0, 0], [0, 0, 0, 1, 0, 0, 0, 0, 0, 0, 0, 0], [0, 0, 0, 0, 1, 0, 0, 0, 0, 0, 0, 0], [0, 0, 0, 0, 0, 1, 0, 0, 0, 0, 0, 0], [0, 0, 0, 0, 0, 0, 1, 0, 0, 0, 0, 0], [0, 0, 0, 0, 0, 0, 0, 1, 0, 0, 0, 0], [0, 0, 0, 0, 0, 0, 0, 0, 1, 0, 0, 0], [0, 0, 0, 0, 0, 0, 0, 0, 0, 1, 0, 0], [0, 0, 0, 0, 0, 0, 0, 0, 0, 0, 1, 0], [0, 0, 0, 0, 0, 0, 0, 0, 0, 0, 0, 1], [-1, 1, 0, -1, 1, 0, -1, 0, 1, -1, 0, 1], [-1, 0, 1, -1, 0, 1, -1, -1, 1, 0, -1, 1], [-1, 0, 0, 0, 0, 0, 0, -1, 0, 0, 0, 0], [0, -1, 0, 0, 0, 0, 0, 0, -1, 0, 0, 0], [0, 0, -1, 0, 0, 0, 0, 0, 0, -1, 0, 0], [0, 0, 0, -1, 0, 0, 0, 0, 0, 0, -1, 0], [0, 0, 0, 0, -1, 0, 0, 0, 0, 0, 0, -1], [1, -1, 0, 1, -1, -1, 1, 0, -1, 1, 0, -1], [1, 0, -1, 1, 0, -1, 0, 1, -1, 0, 1, -1]], [[1, 0, 0, 0, 0, 0, 0, 0, 0, 0], [0, 1, 0, 0, 0, 0, 0, 0, 0, 0], [0, 0, 1, 0, 0, 0, 0, 0, 0, 0], [0, 0, 0, 1, 0, 0, 0, 0, 0, 0], [0, 0, 0, 0, 1, 0, 0, 0, 0, 0], [0, 0, 0, 0, 0, 1, 0, 0, 0, 0], [0, 0, 0, 0, 0, 0, 1, 0, 0, 0], [0, 0, 0, 0, 0, 0, 0, 1, 0, 0], [0, 0, 0, 0, 0, 0, 0, 0, 1, 0], [0, 0, 0, 0, 0, 0, 0, 0, 0, 1], [-1, 1, -1, 1, -1, 1, -1, 1, -1, 1], [-1, 0, 0, 0, 0, 0, 0, 0, 0, 0], [0, -1, 0, 0, 0, 0, 0, 0, 0, 0], [0, 0, -1, 0, 0, 0, 0, 0, 0, 0], [0, 0, 0, -1, 0, 0, 0, 0, 0, 0], [0, 0, 0, 0, -1, 0, 0, 0, 0, 0], [0, 0, 0, 0, 0, -1, 0, 0, 0, 0], [0, 0, 0, 0, 0, 0, -1, 0, 0, 0], [0, 0, 0, 0, 0, 0, 0, -1, 0, 0], [0, 0, 0, 0, 0, 0, 0, 0, -1, 0], [0, 0, 0, 0, 0, 0, 0, 0, 0, -1], [1, -1, 1, -1, 1, -1, 1, -1, 1, -1]], [[1, 0, 0, 0, 0, 0, 0, 0, 0, 0, 0, 0, 0, 0, 0, 0, 0, 0, 0, 0, 0, 0], [0, 1, 0, 0, 0, 0, 0, 0, 0, 0, 0, 0, 0, 0, 0, 0, 0, 0, 0, 0, 0, 0], [0, 0, 1, 0, 0, 0, 0, 0, 0, 0, 0, 0, 0, 0, 0, 0, 0, 0, 0, 0, 0, 0], [0, 0, 0, 1, 0, 0, 0, 0, 0, 0, 0, 0, 0, 0, 0, 0, 0, 0, 0, 0, 0, 0], [0, 0, 0, 0, 1, 0, 0, 0, 0, 0, 0, 0, 0, 0, 0, 0, 0, 0, 0, 0, 0, 0], [0, 0, 0, 0, 0, 1, 0, 0, 0, 0, 0, 0, 0, 0, 0, 0, 0, 0, 0, 0, 0, 0], [0, 0, 0, 0, 0, 0, 1, 0, 0, 0, 0, 0, 0, 0, 0, 0, 0, 0, 0, 0, 0, 0], [0, 0, 0, 0, 0, 0, 0, 1, 0, 0, 0, 0, 0, 0, 0, 0, 0, 0, 0, 0, 0, 0], [0, 0, 0, 0, 0, 0, 0, 0, 1, 0, 0, 0, 0, 0, 0, 0, 0, 0, 0, 0, 0, 0], [0, 0, 0, 0, 0, 0, 0, 0, 0, 1, 0, 0, 0, 0, 0, 0, 0, 0, 0, 0, 0, 0], [0, 0, 0, 0, 0, 0, 0, 0, 0, 0, 1, 0, 0, 0, 0, 0, 0, 0, 0, 0, 0, 0], [0, 0, 0, 0, 0, 0, 0, 0, 0, 0, 0, 1, 0, 0, 0, 0, 0, 0, 0, 0, 0, 0], [0, 0, 0, 0, 0, 0, 0, 0, 0, 0, 0, 0, 1, 0, 0, 0, 0, 0, 0, 0, 0, 0], [0, 0, 0, 0, 0, 0, 0, 0, 0, 0, 0, 0, 0, 1, 0, 0, 0, 0, 0, 0, 0, 0], [0, 0, 0, 0, 0, 0, 0, 0, 0, 0, 0, 0, 0, 0, 1, 0, 0, 0, 0, 0, 0, 0], [0, 0, 0, 0, 0, 0, 0, 0, 0, 0, 0, 0, 0, 0, 0, 1, 0, 0, 0, 0, 0, 0], [0, 0, 0, 0, 0, 0, 0, 0, 0, 0, 0, 0, 0, 0, 0, 0, 1, 0, 0, 0, 0, 0], [0, 0, 0, 0, 0, 0, 0, 0, 0, 0, 0, 0, 0, 0, 0, 0, 0, 1, 0, 0, 0, 0], [0, 0, 0, 0, 0, 0, 0, 0, 0, 0, 0, 0, 0, 0, 0, 0, 0, 0, 1, 0, 0, 0], [0, 0, 0, 0, 0, 0, 0, 0, 0, 0, 0, 0, 0, 0, 0, 0, 0, 0, 0, 1, 0, 0], [0, 0, 0, 0, 0, 0, 0, 0, 0, 0, 0, 0, 0, 0, 0, 0, 0, 0, 0, 0, 1, 0], [0, 0, 0, 0, 0, 0, 0, 0, 0, 0, 0, 0, 0, 0, 0, 0, 0, 0, 0, 0, 0, 1], [-1, -1, -1, -1, -1, -1, -1, -1, -1, -1, -1, -1, -1, -1, -1, -1, -1, -1, -1, -1, -1, -1]], [[1, 0, 0, 0, 0, 0, 0, 0], [0, 1, 0, 0, 0, 0, 0, 0], [0, 0, 1, 0, 0, 0, 0, 0], [0, 0, 0, 1, 0, 0, 0, 0], [0, 0, 0, 0, 1, 0, 0, 0], [0, 0, 0, 0, 0, 1, 0, 0], [0, 0, 0, 0, 0, 0, 1, 0], [0, 0, 0, 0, 0, 0, 0, 1], [-1, 0, 0, 0, 1, 0, 0, 0], [0, -1, 0, 0, 0, 1, 0, 0], [0, 0, -1, 0, 0, 0, 1, 0], [0, 0, 0, -1, 0, 0, 0, 1], [-1, 0, 0, 0, 0, 0, 0, 0], [0, -1, 0, 0, 0, 0, 0, 0], [0, 0, -1, 0, 0, 0, 0, 0], [0, 0, 0, -1, 0, 0, 0, 0], [0, 0, 0, 0, -1, 0, 0, 0], [0, 0, 0, 0, 0, -1, 0, 0], [0, 0, 0, 0, 0, 0, -1, 0], [0, 0, 0, 0, 0, 0, 0, -1], [1, 0, 0, 0, -1, 0, 0, 0], [0, 1, 0, 0, 0, -1, 0, 0], [0, 0, 1, 0, 0, 0, -1, 0], [0, 0, 0, 1, 0, 0, 0, -1]]]
def tS (s c k : Nat) : Int := ((tT.getD s []).getD (k % s) []).getD c 0
theorem tS_add {s q : Nat} (h : q % s = 0) (c k : Nat) : tS s c (k + q) = tS s c k := by unfold tS; rw [Nat.add_mod, h, Nat.add_zero, Nat.mod_mod]
theorem zr_tabC : ((List.range 25).all fun s => s == 0 || (List.range s).all fun o => decide (upto (fun j => (cycN s).getD j 0 * cS s (o + j)) (cycN s).length = 0) && decide (-24 ≤ cS s o) && decide (cS s o ≤ 24)) = true := by kernel_rfl
theorem zr_tabT : ((List.range 25).all fun s => s == 0 || (List.range ((cycN s).length - 1)).all fun c => ((List.range s).all fun o => decide (upto (fun j => (cycN s).getD j 0 * tS s c (o + j)) (cycN s).length = 0)) && (List.range ((cycN s).length - 1)).all fun i => decide (tS s c i = if i = c then 1 else 0)) = true := by kernel_rfl
theorem zr_tabI : ((List.range 25).all fun s => s == 0 || (List.range ((cycN s).length - 1)).all fun c => (List.range s).all fun k => decide (upto (fun m => tS s c ((s - m) % s) * cS s (k + m)) s = (s : Int) * tS s c k)) = true := by kernel_rfl
def valT (T : Nat → Int) (r : List Int) : Int := upto (fun i => r.getD i 0 * T i) r.length
theorem upto_upd {f g : Nat → Int} {i : Nat} : ∀ n : Nat, i < n → (∀ j, j ≠ i → f j = g j) → upto f n = upto g n + (f i - g i)
  | 0, h, _ => by omega
  | n + 1, h, e => by
    rw [upto, upto]
    by_cases hi : i = n
    · subst hi
      rw [upto_congr (fun j hj => e j (by omega))]; omega
    · rw [upto_upd n (by omega) e, e n (by omega)]; omega
theorem valT_set (T : Nat → Int) (r : List Int) (i : Nat) (y : Int) (h : i < r.length) : valT T (r.set i y) = valT T r + (y - r.getD i 0) * T i := by
  unfold valT
  rw [List.length_set, upto_upd (f := fun j => (r.set i y).getD j 0 * T j) (g := fun j => r.getD j 0 * T j) (i := i) r.length h (fun j hj => by
    simp only [List.getD_eq_getElem?_getD]; rw [List.getElem?_set_ne (by omega)])]
  have : (r.set i y).getD i 0 = y := by rw [List.getD_eq_getElem?_getD, List.getElem?_set_self h]; rfl
  rw [this, Int.sub_mul]
theorem wrap_cong (y : Int) : ∃ z, wrap64 y = y + 18446744073709551616 * z := ⟨-((y + 9223372036854775808) / 18446744073709551616), by unfold wrap64; omega⟩
theorem subRow_val (T : Nat → Int) (c : Int) : ∀ (g r : List Int) (o : Nat), o + g.length ≤ r.length → ∃ z, valT T (subRow c g r o) = valT T r - c * upto (fun j => g.getD j 0 * T (o + j)) g.length + 18446744073709551616 * z
  | [], r, o, h => ⟨0, by simp [subRow, upto]⟩
  | x :: xs, r, o, h => by
    simp only [List.length_cons] at h
    obtain ⟨z1, h1⟩ := wrap_cong (c * x)
    obtain ⟨z2, h2⟩ := wrap_cong (r.getD o 0 - wrap64 (c * x))
    obtain ⟨z, hz⟩ := subRow_val T c xs (r.set o (wrap64 (r.getD o 0 - wrap64 (c * x)))) (o + 1) (by rw [List.length_set]; omega)
    refine ⟨z + (z2 - z1) * T o, ?_⟩
    unfold subRow
    rw [hz, valT_set T r o _ (by omega), h2, h1, List.length_cons, upto_first]
    have e : upto (fun i => (x :: xs).getD (i + 1) 0 * T (o + (i + 1))) xs.length = upto (fun j => xs.getD j 0 * T (o + 1 + j)) xs.length := upto_congr (fun i _ => by
      rw [show o + (i + 1) = o + 1 + i by omega]; rfl)
    have e0 : (x :: xs).getD 0 0 = x := rfl
    rw [e, e0, Nat.add_zero]
    generalize upto (fun j => xs.getD j 0 * T (o + 1 + j)) xs.length = U
    generalize T o = t
    generalize r.getD o 0 = v
    have a1 : (v - (c * x + 18446744073709551616 * z1) + 18446744073709551616 * z2 - v) * t = -(c * (x * t)) + 18446744073709551616 * ((z2 - z1) * t) := by
      rw [show v - (c * x + 18446744073709551616 * z1) + 18446744073709551616 * z2 - v = -(c * x) + 18446744073709551616 * (z2 - z1) by omega, Int.add_mul, Int.neg_mul, Int.mul_assoc, Int.mul_assoc]
    rw [a1, Int.mul_add, Int.mul_add]
    omega
theorem divRun_val (T : Nat → Int) (g : List Int) (d : Nat) (hg : g.length = d + 1) (hT : ∀ o, upto (fun j => g.getD j 0 * T (o + j)) g.length = 0) : ∀ (m : Nat) (q r : List Int), m + d ≤ r.length → ∃ z, valT T (divRun g d m q r).2 = valT T r + 18446744073709551616 * z
  | 0, q, r, _ => ⟨0, by simp [divRun]⟩
  | m + 1, q, r, h => by
    obtain ⟨z1, h1⟩ := subRow_val T (r.getD (m + d) 0) g r m (by omega)
    rw [hT, Int.mul_zero, Int.sub_zero] at h1
    obtain ⟨z2, h2⟩ := divRun_val T g d hg hT m (q ++ [r.getD (m + d) 0]) (subRow (r.getD (m + d) 0) g r m) (by rw [subRow_len]; omega)
    refine ⟨z1 + z2, ?_⟩
    unfold divRun
    rw [h2, h1]; omega
theorem valT_bits (T : Nat → Int) (n a : Nat) : valT T (bitsN n a) = tot n a T := by
  unfold valT tot
  rw [bitsN_len]
  refine upto_congr (fun i hi => ?_)
  have : (bitsN n a).getD i 0 = if a.testBit i then 1 else 0 := by
    unfold bitsN
    rw [List.getD_eq_getElem?_getD, List.getElem?_map, List.getElem?_range hi]; rfl
  rw [this]
  cases a.testBit i <;> simp
theorem tab_at {P : Nat → Bool} (h : ((List.range 25).all fun s => s == 0 || P s) = true) {s : Nat} (h1 : 1 ≤ s) (h24 : s ≤ 24) : P s = true := by
  have h := List.all_eq_true.1 h s (List.mem_range.2 (by omega))
  have h0 : (s == 0) = false := beq_eq_false_iff_ne.2 (by omega)
  rw [h0, Bool.false_or] at h
  exact h
theorem cS_rec {s : Nat} (h1 : 1 ≤ s) (h24 : s ≤ 24) (o : Nat) : upto (fun j => (cycN s).getD j 0 * cS s (o + j)) (cycN s).length = 0 := by
  have h := tab_at zr_tabC h1 h24
  rw [List.all_eq_true] at h
  have h := h (o % s) (List.mem_range.2 (Nat.mod_lt _ h1))
  rw [Bool.and_eq_true, Bool.and_eq_true] at h
  refine Eq.trans (upto_congr (fun j _ => ?_)) (of_decide_eq_true h.1.1)
  rw [← cS_mod s (o + j), ← cS_mod s (o % s + j), Nat.mod_add_mod]
theorem cS_bd {s : Nat} (h1 : 1 ≤ s) (h24 : s ≤ 24) (o : Nat) : -24 ≤ cS s o ∧ cS s o ≤ 24 := by
  have h := tab_at zr_tabC h1 h24
  rw [List.all_eq_true] at h
  have h := h (o % s) (List.mem_range.2 (Nat.mod_lt _ h1))
  rw [Bool.and_eq_true, Bool.and_eq_true] at h
  have h2 := of_decide_eq_true h.1.2
  have h3 := of_decide_eq_true h.2
  rw [cS_mod] at h2 h3
  exact ⟨h2, h3⟩
theorem tS_rec {s c : Nat} (h1 : 1 ≤ s) (h24 : s ≤ 24) (hc : c < (cycN s).length - 1) (o : Nat) : upto (fun j => (cycN s).getD j 0 * tS s c (o + j)) (cycN s).length = 0 := by
  have h := tab_at zr_tabT h1 h24
  rw [List.all_eq_true] at h
  have h := h c (List.mem_range.2 hc)
  rw [Bool.and_eq_true, List.all_eq_true] at h
  refine Eq.trans (upto_congr (fun j _ => ?_)) (of_decide_eq_true (h.1 (o % s) (List.mem_range.2 (Nat.mod_lt _ h1))))
  unfold tS; rw [Nat.mod_add_mod]
theorem tS_one {s c i : Nat} (h1 : 1 ≤ s) (h24 : s ≤ 24) (hc : c < (cycN s).length - 1) (hi : i < (cycN s).length - 1) : tS s c i = if i = c then 1 else 0 := by
  have h := tab_at zr_tabT h1 h24
  rw [List.all_eq_true] at h
  have h := h c (List.mem_range.2 hc)
  rw [Bool.and_eq_true, List.all_eq_true, List.all_eq_true] at h
  exact of_decide_eq_true (h.2 i (List.mem_range.2 hi))
theorem tS_inv {s c : Nat} (h1 : 1 ≤ s) (h24 : s ≤ 24) (hc : c < (cycN s).length - 1) (k : Nat) : upto (fun m => tS s c ((s - m) % s) * cS s (k + m)) s = (s : Int) * tS s c k := by
  have h := tab_at zr_tabI h1 h24
  rw [List.all_eq_true] at h
  have h := h c (List.mem_range.2 hc)
  rw [List.all_eq_true] at h
  have e := of_decide_eq_true (h (k % s) (List.mem_range.2 (Nat.mod_lt _ h1)))
  have e2 : tS s c (k % s) = tS s c k := by unfold tS; rw [Nat.mod_mod]
  rw [e2] at e
  rw [← e]
  refine upto_congr (fun m _ => ?_)
  rw [← cS_mod s (k + m), ← cS_mod s (k % s + m), Nat.mod_add_mod]
theorem tot_bd {n a : Nat} {g : Nat → Int} (hg : ∀ k, -24 ≤ g k ∧ g k ≤ 24) : -24 * (n : Int) ≤ tot n a g ∧ tot n a g ≤ 24 * (n : Int) := by
  unfold tot
  induction n with
  | zero => simp [upto]
  | succ n ih =>
    have := hg n
    rw [upto]
    split <;> omega
theorem tot_lin {n a : Nat} (f : Nat → Nat → Int) (cf : Nat → Int) (s : Nat) : tot n a (fun k => upto (fun m => cf m * f m k) s) = upto (fun m => cf m * tot n a (f m)) s := by
  unfold tot
  have e : ∀ k, (if a.testBit k = true then upto (fun m => cf m * f m k) s else 0) = upto (fun m => if a.testBit k = true then cf m * f m k else 0) s := fun k => by
    split
    · rfl
    · exact (upto_zero0 s).symm
  simp only [e]
  rw [upto_swap]
  refine upto_congr (fun m _ => ?_)
  rw [← upto_mul]
  exact upto_congr (fun k _ => by split <;> simp)
theorem divRun_in (g : List Int) (d : Nat) : ∀ (m : Nat) (q r : List Int), InR r → InR (divRun g d m q r).2
  | 0, _, _, h => h
  | m + 1, _, _, h => divRun_in g d m _ _ (subRow_in _ _ _ _ h)
/-- **a root by division is a root by sums** -/
theorem isRt_zr {n a s : Nat} (h1 : 1 ≤ s) (hs : s ≤ n) (hn : n ≤ 24) : isRt n a s = true ↔ zr s n a := by
  obtain ⟨c1, c2, c3⟩ := cyc_len (n := s) h1 (by omega)
  have hg : cycN s = (cycN s).dropLast ++ [1] := by
    have hne : cycN s ≠ [] := fun e => by rw [e] at c1; simp at c1
    conv => lhs; rw [← List.dropLast_concat_getLast hne]
    congr 2
    rw [List.getLast_eq_getElem]
    rw [List.getD_eq_getElem?_getD, List.getElem?_eq_getElem (by omega)] at c3
    exact c3
  have hdl : (cycN s).dropLast.length = (cycN s).length - 1 := List.length_dropLast
  have hgl : (cycN s).length = (cycN s).length - 1 + 1 := by omega
  unfold isRt divQ
  simp only [bitsN_len]
  have hlen := (divRun_len (cycN s) ((cycN s).length - 1) (n - ((cycN s).length - 1)) [] (bitsN n a)).1
  rw [bitsN_len] at hlen
  have hval := fun T hT => divRun_val T (cycN s) ((cycN s).length - 1) hgl hT (n - ((cycN s).length - 1)) [] (bitsN n a) (by rw [bitsN_len]; omega)
  have hhigh := divRun_high (cycN s).dropLast ((cycN s).length - 1) hdl (n - ((cycN s).length - 1)) [] (bitsN n a) (bitsN_in n a) (by rw [bitsN_len]; omega)
  rw [← hg] at hhigh
  have hin := divRun_in (cycN s) ((cycN s).length - 1) (n - ((cycN s).length - 1)) [] (bitsN n a) (bitsN_in n a)
  generalize (divRun (cycN s) ((cycN s).length - 1) (n - ((cycN s).length - 1)) [] (bitsN n a)).2 = rr at hlen hval hhigh hin
  constructor
  · intro hz m
    rw [List.all_eq_true] at hz
    have h0 : ∀ i, rr.getD i 0 = 0 := fun i => by
      rw [List.getD_eq_getElem?_getD]
      cases e : rr[i]? with
      | none => rfl
      | some v => exact of_decide_eq_true (hz v (List.mem_of_getElem? e))
    obtain ⟨z, hv⟩ := hval (fun k => cS s (k + m)) (fun o => by
      exact Eq.trans (upto_congr (fun j _ => by rw [show o + j + m = o + m + j by omega])) (cS_rec h1 (by omega) (o + m)))
    have e0 : valT (fun k => cS s (k + m)) rr = 0 := by
      unfold valT
      refine (upto_congr (fun i _ => ?_)).trans (upto_zero0 _)
      rw [h0 i, Int.zero_mul]
    rw [e0, valT_bits] at hv
    have hb := tot_bd (n := n) (a := a) (g := fun k => cS s (k + m)) (fun k => cS_bd h1 (by omega) _)
    omega
  · intro hz
    have h0 : ∀ i, i < rr.length → rr.getD i 0 = 0 := fun i hi => by
      rcases Nat.lt_or_ge i ((cycN s).length - 1) with hc | hc
      · obtain ⟨z, hv⟩ := hval (tS s i) (tS_rec h1 (by omega) hc)
        rw [valT_bits] at hv
        have e1 : (s : Int) * tot n a (tS s i) = 0 := by
          have e : tot n a (fun k => (s : Int) * tS s i k) = (s : Int) * tot n a (tS s i) := by
            unfold tot
            rw [← upto_mul]
            exact upto_congr (fun k _ => by split <;> simp)
          rw [← e]
          have e2 : tot n a (fun k => (s : Int) * tS s i k) = tot n a (fun k => upto (fun m => tS s i ((s - m) % s) * cS s (k + m)) s) := tot_congr (fun k _ => (tS_inv h1 (by omega) hc k).symm)
          rw [e2, tot_lin (fun m k => cS s (k + m)) (fun m => tS s i ((s - m) % s)) s]
          refine (upto_congr (fun m _ => ?_)).trans (upto_zero0 s)
          rw [hz m, Int.mul_zero]
        have e3 : tot n a (tS s i) = 0 := (Int.mul_eq_zero.1 e1).resolve_left (by omega)
        have e4 : valT (tS s i) rr = rr.getD i 0 := by
          unfold valT
          rw [upto_upd (f := fun j => rr.getD j 0 * tS s i j) (g := fun j => if j = i then 0 else rr.getD j 0 * tS s i j) (i := i) rr.length hi (fun j hj => by rw [if_neg hj])]
          have e5 : upto (fun j => if j = i then 0 else rr.getD j 0 * tS s i j) rr.length = 0 := by
            refine (upto_congr (fun j hj => ?_)).trans (upto_zero0 _)
            by_cases hji : j = i
            · rw [if_pos hji]
            · rw [if_neg hji]
              rcases Nat.lt_or_ge j ((cycN s).length - 1) with hj2 | hj2
              · rw [tS_one h1 (by omega) hc hj2, if_neg hji, Int.mul_zero]
              · rw [hhigh j hj2 (by omega), Int.zero_mul]
          rw [e5, if_pos rfl, tS_one h1 (by omega) hc hc, if_pos rfl]; omega
        rw [e4, e3] at hv
        have := getD_in hin i
        omega
      · exact hhigh i hc (by omega)
    rw [List.all_eq_true]
    intro v hv
    obtain ⟨i, hi, rfl⟩ := List.mem_iff_getElem.1 hv
    have := h0 i hi
    rw [List.getD_eq_getElem?_getD, List.getElem?_eq_getElem hi] at this
    exact decide_eq_true this

end Go.Proofs.Ytkidgakjeahebaa.P
namespace Go.Proofs.Ytkidgakjeahebaa.P
open Go.RowKit Go.Proofs.YtkidgakjeahebaaW.PrintWords Go.Proofs.YtkidgakjeahebaaW.PrintLast Go.Proofs.YtkidgakjeahebaaW.PrintMore
attribute [local go_sem] max2_int min2_int max_two min_two max_three min_three max_four min_four   -- for this text's walks alone
set_option linter.unusedVariables false
set_option linter.unusedSimpArgs false

/-! the law on two rhythms that fill the circle, walked by hand: its differences lie in an array of arrays -/
def sackbutlaw02_CanonFills.Pure : Prop := True
def updH (f : Nat → Nat → Bool) (i d : Nat) : Nat → Nat → Bool := fun k e => f k e || (decide (k = i) && decide (e = d))
def stepH (n s i x y : Nat) (f : Nat → Nat → Bool) : Nat → Nat → Bool := if (s.testBit x && s.testBit y) = true then updH f i ((x + (n - y)) % n) else f
def rowH (n s i x : Nat) : Nat → (Nat → Nat → Bool) → Nat → Nat → Bool
  | 0, f => f
  | m + 1, f => stepH n s i x m (rowH n s i x m f)
def sqH (n s i : Nat) : Nat → (Nat → Nat → Bool) → Nat → Nat → Bool
  | 0, f => f
  | m + 1, f => rowH n s i m n (sqH n s i m f)
theorem rowH_iff (n s i x : Nat) (f : Nat → Nat → Bool) (k e : Nat) : ∀ m, rowH n s i x m f k e = true ↔ f k e = true ∨ (k = i ∧ ∃ y, y < m ∧ s.testBit x = true ∧ s.testBit y = true ∧ (x + (n - y)) % n = e)
  | 0 => by
    constructor
    · intro h; exact .inl h
    · rintro (h | ⟨_, y, hy, _⟩)
      · exact h
      · omega
  | m + 1 => by
    have ih := rowH_iff n s i x f k e m
    unfold rowH stepH
    by_cases hb : (s.testBit x && s.testBit m) = true
    · rw [if_pos hb]
      rw [Bool.and_eq_true] at hb
      unfold updH
      rw [Bool.or_eq_true, Bool.and_eq_true, decide_eq_true_eq, decide_eq_true_eq, ih]
      constructor
      · rintro ((h | ⟨h, y, hy, h1⟩) | ⟨h, h1⟩)
        · exact .inl h
        · exact .inr ⟨h, y, by omega, h1⟩
        · exact .inr ⟨h, m, by omega, hb.1, hb.2, h1.symm⟩
      · rintro (h | ⟨h, y, hy, h1, h2, h3⟩)
        · exact .inl (.inl h)
        · by_cases e1 : y = m
          · subst e1; exact .inr ⟨h, h3.symm⟩
          · exact .inl (.inr ⟨h, y, by omega, h1, h2, h3⟩)
    · rw [if_neg hb, ih]
      constructor
      · rintro (h | ⟨h, y, hy, h1⟩)
        · exact .inl h
        · exact .inr ⟨h, y, by omega, h1⟩
      · rintro (h | ⟨h, y, hy, h1, h2, h3⟩)
        · exact .inl h
        · by_cases e1 : y = m
          · subst e1; exact absurd (by rw [h1, h2]; rfl) hb
          · exact .inr ⟨h, y, by omega, h1, h2, h3⟩
theorem sqH_iff (n s i : Nat) (f : Nat → Nat → Bool) (k e : Nat) : ∀ m, sqH n s i m f k e = true ↔ f k e = true ∨ (k = i ∧ ∃ x, x < m ∧ ∃ y, y < n ∧ s.testBit x = true ∧ s.testBit y = true ∧ (x + (n - y)) % n = e)
  | 0 => by
    constructor
    · intro h; exact .inl h
    · rintro (h | ⟨_, y, hy, _⟩)
      · exact h
      · omega
  | m + 1 => by
    have ih := sqH_iff n s i f k e m
    unfold sqH
    rw [rowH_iff, ih]
    constructor
    · rintro ((h | ⟨h, x, hx, h1⟩) | ⟨h, h1⟩)
      · exact .inl h
      · exact .inr ⟨h, x, by omega, h1⟩
      · exact .inr ⟨h, m, by omega, h1⟩
    · rintro (h | ⟨h, x, hx, h1⟩)
      · exact .inl (.inl h)
      · by_cases e1 : x = m
        · subst e1; exact .inr ⟨h, h1⟩
        · exact .inl (.inr ⟨h, x, by omega, h1⟩)
def noH : Nat → Nat → Bool := fun _ _ => false
def setB (a b i : Nat) : Nat := if i = 0 then a else b
/-- the differences of the first i rhythms -/
def diffH (n a b : Nat) : Nat → Nat → Nat → Bool
  | 0 => noH
  | i + 1 => sqH n (setB a b i) i n (diffH n a b i)
theorem diffH_two (n a b d : Nat) : (diffH n a b 2 0 d = true ↔ hasD n a d) ∧ (diffH n a b 2 1 d = true ↔ hasD n b d) := by
  unfold hasD
  refine ⟨?_, ?_⟩
  · show sqH n (setB a b 1) 1 n (sqH n (setB a b 0) 0 n noH) 0 d = true ↔ _
    rw [sqH_iff, sqH_iff]
    constructor
    · rintro ((h | ⟨_, h⟩) | ⟨h, _⟩)
      · cases h
      · exact h
      · cases h
    · intro h; exact .inl (.inr ⟨rfl, h⟩)
  · show sqH n (setB a b 1) 1 n (sqH n (setB a b 0) 0 n noH) 1 d = true ↔ _
    rw [sqH_iff, sqH_iff]
    constructor
    · rintro ((h | ⟨h, _⟩) | ⟨_, h⟩)
      · cases h
      · cases h
      · exact h
    · intro h; exact .inr ⟨rfl, h⟩
/-- the array of both rhythms' differences in memory -/
structure HaveAt (w : World) (B : Nat) (f : Nat → Nat → Bool) (W : World) : Prop where
  bl : Below w.heap.size w W
  ge : w.heap.size ≤ B
  lt : B < W.heap.size
  at_ : ∀ i e, i < 2 → e < 24 → W.cell? ⟨B, i * 24 + e, none⟩ = some (.bool (f i e))
  fr : ∀ k, W.frozen? ⟨B, k, none⟩ = false
theorem HaveAt.to {w : World} {B : Nat} {f : Nat → Nat → Bool} {W V : World} (h : HaveAt w B f W) (hb : Below W.heap.size W V) : HaveAt w B f V :=
  ⟨below_step h.bl hb, h.ge, Nat.lt_of_lt_of_le h.lt hb.size, fun i e hi he => (hb.cell (p := ⟨B, i * 24 + e, none⟩) h.lt).trans (h.at_ i e hi he), fun k => by
    have := h.fr k
    unfold World.frozen? at this ⊢
    simp only [hb.block B h.lt]
    exact this⟩
theorem HaveAt.drewN {w : World} {B : Nat} {f : Nat → Nat → Bool} {W : World} (h : HaveAt w B f W) (q : Nat) : HaveAt w B f (W.drewN q) := h.to (pw_below_drewN (Below.refl _ _) q)
theorem HaveAt.drew {w : World} {B : Nat} {f : Nat → Nat → Bool} {W : World} (h : HaveAt w B f W) : HaveAt w B f W.drew := h.drewN 1
theorem HaveAt.new {w W : World} (hb : Below w.heap.size w W) (t : TypeId) (c : Array Value) (hc : ∀ k, k < 48 → c[k]? = some (.bool false)) : HaveAt w W.heap.size noH (W.alloc (.cells c t)) := by
  have h : (W.alloc (.cells c t)).heap[W.heap.size]? = some (.cells c t) := by unfold World.alloc; exact Array.getElem?_push_size
  refine ⟨below_alloc hb _, below_size hb, by simp [World.size_alloc], fun i e hi he => ?_, fun k => ?_⟩
  · unfold World.cell?
    simp only [h]
    exact hc _ (by omega)
  · unfold World.frozen?
    simp only [h]
    simp
theorem setc_same {W : World} {B o : Nat} {u : Value} (v : Value) (h : W.cell? ⟨B, o, none⟩ = some u) : (W.setCell ⟨B, o, none⟩ v).cell? ⟨B, o, none⟩ = some v := by
  unfold World.cell? at h ⊢
  unfold World.setCell
  simp only [Array.getElem?_modify, if_true] at h ⊢
  cases hW : W.heap[B]? with
  | none => rw [hW] at h; cases h
  | some ob =>
    rw [hW] at h
    cases ob with
    | cells c t fz =>
      simp only [Option.isSome_none, Bool.false_eq_true, if_false, Option.map_some] at h ⊢
      obtain ⟨hl, _⟩ := Array.getElem?_eq_some_iff.1 h
      rw [Array.getElem?_setIfInBounds_self_of_lt hl]
    | _ => cases h
theorem setc_far {W : World} {B o p : Nat} (v : Value) (hne : p ≠ o) : (W.setCell ⟨B, o, none⟩ v).cell? ⟨B, p, none⟩ = W.cell? ⟨B, p, none⟩ := by
  unfold World.cell? World.setCell
  simp only [Array.getElem?_modify, if_true]
  cases hW : W.heap[B]? with
  | none => rfl
  | some ob =>
    cases ob with
    | cells c t fz =>
      simp only [Option.isSome_none, Bool.false_eq_true, if_false, Option.map_some]
      rw [Array.getElem?_setIfInBounds_ne (by omega)]
    | _ => rfl
theorem HaveAt.set {w : World} {B : Nat} {f : Nat → Nat → Bool} {W : World} (h : HaveAt w B f W) {i d o : Nat} (hi : i < 2) (hd : d < 24) (ho : o = i * 24 + d) : HaveAt w B (updH f i d) (W.setCell ⟨B, o, none⟩ (.bool true)) := by
  subst ho
  refine ⟨below_set h.bl h.ge, h.ge, by have := h.lt; simpa [World.setCell] using this, fun k e hk he => ?_, fun k => (World.frozen?_setCell W _ _ _).trans (h.fr k)⟩
  unfold updH
  by_cases hke : k = i ∧ e = d
  · obtain ⟨rfl, rfl⟩ := hke
    rw [setc_same _ (h.at_ k e hk he)]
    simp
  · rw [setc_far _ (fun e1 => hke (by omega)), h.at_ k e hk he]
    have : (decide (k = i) && decide (e = d)) = false := by
      rw [Bool.and_eq_false_iff]
      by_cases h1 : k = i
      · exact .inr (decide_eq_false (fun h2 => hke ⟨h1, h2⟩))
      · exact .inl (decide_eq_false h1)
    rw [this, Bool.or_false]
def comH (f : Nat → Nat → Bool) : Nat → Bool
  | 0 => false
  | d + 1 => comH f d || (f 0 (d + 1) && f 1 (d + 1))
theorem comH_iff (f : Nat → Nat → Bool) : ∀ m, comH f m = true ↔ ∃ d, 1 ≤ d ∧ d ≤ m ∧ f 0 d = true ∧ f 1 d = true
  | 0 => ⟨fun h => (by cases h), fun h => (by obtain ⟨d, h1, h2, _⟩ := h; omega)⟩
  | m + 1 => by
    unfold comH
    rw [Bool.or_eq_true, Bool.and_eq_true, comH_iff f m]
    constructor
    · rintro (⟨d, h1, h2, h3⟩ | h)
      · exact ⟨d, h1, by omega, h3⟩
      · exact ⟨m + 1, by omega, by omega, h⟩
    · rintro ⟨d, h1, h2, h3⟩
      by_cases e : d = m + 1
      · subst e; exact .inr h3
      · exact .inl ⟨d, h1, by omega, h3⟩
theorem fills_valid {n a : Nat} (hn : 2 ≤ n) (hn2 : n ≤ 24) (ha : a < 2 ^ n) (h0 : a.testBit 0 = true) : ValidR (n : Int) (a : Int) := by
  have e1 : (a : Int) < ((2 ^ n : Nat) : Int) := by omega
  rw [pow_cast] at e1
  refine ⟨by omega, by omega, by omega, by rw [Int.toNat_natCast]; exact e1, ?_⟩
  have := of_decide_eq_true ((Nat.testBit_zero a).symm.trans h0)
  omega
theorem bit_div {n s x : Nat} (hn : n ≤ 24) (hs : s < 2 ^ n) (hx : x ≤ 64) : Go.bits .and .i64 ((s : Int) / 2 ^ x) 1 = if s.testBit x then 1 else 0 := by
  have h := bit_r hn hs hx
  rw [shr_i64 _ _ (by have := pow24 hn; omega)] at h
  rw [← h]
  congr 1
theorem Roots_ev {n a : Nat} (h2 : 2 ≤ n) (h24 : n ≤ 24) (ha : a < 2 ^ n) (hv : ValidR (n : Int) (a : Int)) : Ev (fun k => canon_Roots.f k (n : Int) (a : Int)) (numsI (rootsN n a), 0) := by
  unfold canon_Roots.f
  refine Ev.bind_some (by rw [valid1_f, decide_eq_true hv]) ?_
  simp only [if_true]
  exact Ev.bind (roots_ev h2 h24 ha) (Ev.some _)
set_option maxHeartbeats 8000000 in
set_option maxRecDepth 100000 in
theorem fills_good {n a b : Nat} (h2 : 2 ≤ n) (h24 : n ≤ 24) (ha : a < 2 ^ n) (hb : b < 2 ^ n) (a0 : a.testBit 0 = true) (b0 : b.testBit 0 = true) (w : World) : Calls Try.prog 6 #[.int .i64 (n : Int), .int .i64 (a : Int), .int .i64 (b : Int)] w fun e w' => e = .returned (.bool true) ∧ Below w.heap.size w w' := by
  have hva := fills_valid h2 h24 ha a0
  have hvb := fills_valid h2 h24 hb b0
  obtain ⟨k1, hk1⟩ := Ev.rounds (Tiles_ev (n : Int) (a : Int) (b : Int))
  obtain ⟨k2, hk2⟩ := Ev.rounds (Tiles_ev (n : Int) (b : Int) (a : Int))
  rw [if_pos ⟨hva, hvb⟩] at hk1
  rw [if_pos ⟨hvb, hva⟩] at hk2
  simp only [Int.toNat_natCast] at hk1 hk2
  rw [show decide (Tiled n b a) = decide (Tiled n a b) from decide_eq_decide.2 ⟨tiled_symm hb ha, tiled_symm ha hb⟩] at hk2
  obtain ⟨T, hT⟩ : ∃ T, decide (Tiled n a b) = T := ⟨_, rfl⟩
  rw [hT] at hk1 hk2
  have HT1 := Aside0.mk (fun V => canon_Tiles.calls k1 n a b T 0 V hk1)
  have HT2 := Aside0.mk (fun V => canon_Tiles.calls k2 n b a T 0 V hk2)
  have HR1 := Aside0.mk (fun V => sackbutref02_Rhythm.calls n a true V (by rw [rhythm_f, decide_eq_true hva]))
  have HR2 := Aside0.mk (fun V => sackbutref02_Rhythm.calls n b true V (by rw [rhythm_f, decide_eq_true hvb]))
  obtain ⟨F, hF⟩ : ∃ F, F = diffH n a b 2 := ⟨_, rfl⟩
  obtain ⟨SA, hSA⟩ : ∃ S, S = chSize n a := ⟨_, rfl⟩
  obtain ⟨SB, hSB⟩ : ∃ S, S = chSize n b := ⟨_, rfl⟩
  have hTC : T = (!comH F (n - 1) && decide (SA * SB = n)) := by
    rw [← hT, Bool.eq_iff_iff, decide_eq_true_eq, tiled_diff ha, Bool.and_eq_true, Bool.not_eq_true', decide_eq_true_eq, hSA, hSB]
    refine and_congr ?_ Iff.rfl
    rw [← Bool.not_eq_true, comH_iff, hF]
    constructor
    · rintro h ⟨d, h1, h3, h4, h5⟩
      exact h d h1 (by omega) ⟨(diffH_two n a b d).1.1 h4, (diffH_two n a b d).2.1 h5⟩
    · rintro h d h1 h3 ⟨h4, h5⟩
      exact h ⟨d, h1, by omega, (diffH_two n a b d).1.2 h4, (diffH_two n a b d).2.2 h5⟩
  have HTC := Aside0.mk hTC
  have HFD := Aside0.mk hF
  have HSL := Aside0.mk (show SA ≤ 24 ∧ SB ≤ 24 from ⟨by rw [hSA, chSize_cnt]; exact Nat.le_trans (cnt_le n _) h24, by rw [hSB, chSize_cnt]; exact Nat.le_trans (cnt_le n _) h24⟩)
  obtain ⟨ka, hka⟩ := Ev.rounds (refSize_ev h24 ha)
  obtain ⟨kb, hkb⟩ := Ev.rounds (refSize_ev h24 hb)
  rw [← hSA] at hka
  rw [← hSB] at hkb
  have HSA := Aside0.mk (fun V => sackbutref02_Size.calls ka (a : Int) (SA : Int) V hka)
  have HSB := Aside0.mk (fun V => sackbutref02_Size.calls kb (b : Int) (SB : Int) V hkb)
  obtain ⟨kw, hkw⟩ := Ev.rounds (g := fun k => sackbutlaw02_awake.f k) awake_ev
  have HAW := Aside0.mk (fun V => sackbutlaw02_awake.calls kw true V hkw)
  obtain ⟨ra, hra⟩ : ∃ r, r = numsI (rootsN n a) := ⟨_, rfl⟩
  obtain ⟨rb, hrb⟩ : ∃ r, r = numsI (rootsN n b) := ⟨_, rfl⟩
  obtain ⟨kra, hkra⟩ := Ev.rounds (Roots_ev h2 h24 ha hva)
  obtain ⟨krb, hkrb⟩ := Ev.rounds (Roots_ev h2 h24 hb hvb)
  rw [← hra] at hkra
  rw [← hrb] at hkrb
  have HRA := Aside0.mk (fun V => canon_Roots.calls kra (n : Int) (a : Int) ra 0 V hkra)
  have HRB := Aside0.mk (fun V => canon_Roots.calls krb (n : Int) (b : Int) rb 0 V hkrb)
  have hla : ra.length < 1000 := by have := rootsN_len n a h24; rw [hra]; unfold numsI; rw [List.length_map]; exact this
  have hlb : rb.length < 1000 := by have := rootsN_len n b h24; rw [hrb]; unfold numsI; rw [List.length_map]; exact this
  have HCA := Aside0.mk (fun (s : Nat) (A : Option Addr) (c : Nat) (V : World) (hr : Kd.C (Kd.int .i64) V A ra.length ra) (hc : ra.length ≤ c) => by
    obtain ⟨k, hk⟩ := Ev.rounds (Contains_ev ra (s : Int) (by omega))
    exact slices_Contains_int_int.calls k A c ra (s : Int) _ V hr hc hk)
  have HCB := Aside0.mk (fun (s : Nat) (A : Option Addr) (c : Nat) (V : World) (hr : Kd.C (Kd.int .i64) V A rb.length rb) (hc : rb.length ≤ c) => by
    obtain ⟨k, hk⟩ := Ev.rounds (Contains_ev rb (s : Int) (by omega))
    exact slices_Contains_int_int.calls k A c rb (s : Int) _ V hr hc hk)
  have HDR := Aside0.mk (show T = true → ∀ s : Nat, 2 ≤ s → n % s = 0 → (s : Int) ∈ ra ∨ (s : Int) ∈ rb from fun e s hs hns => by
    have hle : s ≤ n := Nat.le_of_dvd (by omega) (Nat.dvd_of_mod_eq_zero hns)
    have h := div_roots n h2 h24 a b ha hb a0 b0 (of_decide_eq_true (hT.trans e)) s hs hns
    rw [← isRt_zr (by omega) hle h24, ← isRt_zr (by omega) hle h24] at h
    rw [hra, hrb]
    have mk : ∀ c, isRt n c s = true → (s : Int) ∈ numsI (rootsN n c) := fun c h => by
      unfold numsI
      exact List.mem_map.2 ⟨s, rootsN_mem.2 ⟨hs, hle, hns, h⟩, rfl⟩
    exact h.imp (mk a) (mk b))
  clear hTC hSA hSB hka hkb hkw hra hrb hkra hkrb hla hlb
  have HN := Aside0.mk (show 2 ≤ n ∧ n ≤ 24 from ⟨h2, h24⟩)
  clear hk1 hk2 hva hvb hT a0 b0
  go_enter Try.func6, Try.ntmps6
  go_wp2_with fail
  refine (HT1.out _).mono ?_
  rintro e w1 ⟨rfl, hb1⟩
  have HB1 := Aside0.mk hb1
  clear hb1
  go_wp2_with fail
  refine (HR1.out _).mono ?_
  rintro e w2 ⟨rfl, ⟨q2, rfl⟩⟩
  go_wp2_with fail
  refine (HR2.out _).mono ?_
  rintro e w3 ⟨rfl, ⟨q3, rfl⟩⟩
  go_wp2_with fail
  refine (HT2.out _).mono ?_
  rintro e w4 ⟨rfl, hb4⟩
  have HB4 := Aside0.mk (below_step HB1.out (below_step (pw_below_drewN (Below.refl _ _) _) hb4))
  clear hb4
  go_wp2_with fail
  have HH0 := Aside0.mk (HaveAt.new (w := w) (W := w4) HB4.out 36 #[.bool false, .bool false, .bool false, .bool false, .bool false, .bool false, .bool false, .bool false, .bool false, .bool false, .bool false, .bool false, .bool false, .bool false, .bool false, .bool false, .bool false, .bool false, .bool false, .bool false, .bool false, .bool false, .bool false, .bool false, .bool false, .bool false, .bool false, .bool false, .bool false, .bool false, .bool false, .bool false, .bool false, .bool false, .bool false, .bool false, .bool false, .bool false, .bool false, .bool false, .bool false, .bool false, .bool false, .bool false, .bool false, .bool false, .bool false, .bool false] (fun k hk => by rcases k with _ | _ | _ | _ | _ | _ | _ | _ | _ | _ | _ | _ | _ | _ | _ | _ | _ | _ | _ | _ | _ | _ | _ | _ | _ | _ | _ | _ | _ | _ | _ | _ | _ | _ | _ | _ | _ | _ | _ | _ | _ | _ | _ | _ | _ | _ | _ | _ | k <;> first | rfl | omega))
  obtain ⟨W5, hW5⟩ : ∃ W5, W5 = w4.alloc (.cells #[.bool false, .bool false, .bool false, .bool false, .bool false, .bool false, .bool false, .bool false, .bool false, .bool false, .bool false, .bool false, .bool false, .bool false, .bool false, .bool false, .bool false, .bool false, .bool false, .bool false, .bool false, .bool false, .bool false, .bool false, .bool false, .bool false, .bool false, .bool false, .bool false, .bool false, .bool false, .bool false, .bool false, .bool false, .bool false, .bool false, .bool false, .bool false, .bool false, .bool false, .bool false, .bool false, .bool false, .bool false, .bool false, .bool false, .bool false, .bool false] 36) := ⟨_, rfl⟩
  rw [← hW5] at HH0
  rw [← hW5]
  clear hW5
  obtain ⟨B, hB⟩ : ∃ B, B = w4.heap.size := ⟨_, rfl⟩
  rw [← hB] at HH0
  rw [← hB]
  clear hB HB1 HB4
  go_loopg [65] 2 (fun gg s65 wr => ∃ i : Nat, s65 = .int .i64 (i : Int) ∧ i + gg = 2 ∧ Aside0 (HaveAt w B (diffH n a b i) wr))
  case atStart => exact ⟨0, rfl, rfl, ⟨HH0.out⟩⟩
  case round =>
    obtain ⟨i, rfl, hig, HI⟩ := hrel
    by_cases hi : i < 2
    · have hiz : (i : Int) < 2 := by omega
      obtain ⟨s, hs⟩ : ∃ s, s = setB a b i := ⟨_, rfl⟩
      have hix : (Sem.run Try.prog (Instr.index 37 (.agg #[.int .i64 (a : Int), .int .i64 (b : Int)]) (.int .i64 (i : Int))) wr) = .ok (.int .i64 (s : Int)) wr := by
        rw [hs]; unfold setB
        rcases i with _ | _ | i
        · rfl
        · rfl
        · omega
      have HSS := Aside0.mk (show s < 2 ^ n by rw [hs]; unfold setB; split <;> assumption)
      have HDI := Aside0.mk (show diffH n a b (i + 1) = sqH n s i n (diffH n a b i) by rw [hs]; rfl)
      have HI2 := Aside0.mk hi
      clear hs
      go_wp2_with fail
      clear hix
      go_loopg [70] n (fun g2 s70 wr2 => ∃ x : Nat, s70 = .int .i64 (x : Int) ∧ x + g2 = n ∧ Aside0 (HaveAt w B (sqH n s i x (diffH n a b i)) wr2))
      case atStart => exact ⟨0, rfl, by omega, ⟨HI.out⟩⟩
      case round =>
        obtain ⟨x, rfl, hxg, HX⟩ := hrel
        by_cases hx : x < n
        · have hxz : (x : Int) < (n : Int) := by omega
          go_wp2_with fail
          go_loopg [74] n (fun g3 s74 wr3 => ∃ y : Nat, s74 = .int .i64 (y : Int) ∧ y + g3 = n ∧ Aside0 (HaveAt w B (rowH n s i x y (sqH n s i x (diffH n a b i))) wr3))
          case atStart => exact ⟨0, rfl, by omega, ⟨HX.out⟩⟩
          case round =>
            obtain ⟨y, rfl, hyg, HY⟩ := hrel
            by_cases hy : y < n
            · have hyz : (y : Int) < (n : Int) := by omega
              have p1 : (0 : Int) ≤ (x : Int) := by omega
              have p2 : (0 : Int) ≤ (y : Int) := by omega
              have dx := bit_div HN.out.2 HSS.out (show x ≤ 64 by have := HN.out.2; omega)
              have dy := bit_div HN.out.2 HSS.out (show y ≤ 64 by have := HN.out.2; omega)
              by_cases bx : s.testBit x = true
              · rw [if_pos bx] at dx
                by_cases by_ : s.testBit y = true
                · rw [if_pos by_] at dy
                  obtain ⟨e0, he0⟩ : ∃ e0, e0 = (x + (n - y)) % n := ⟨_, rfl⟩
                  have hel : e0 < n := by rw [he0]; exact Nat.mod_lt _ (by omega)
                  have he24 : e0 < 24 := by have := HN.out.2; omega
                  have hw1 : IntKind.i64.wrap ((x : Int) - (y : Int)) = (x : Int) - (y : Int) := i64_id (by have := HN.out.2; omega) (by have := HN.out.2; omega)
                  have hw2 : IntKind.i64.wrap ((x : Int) - (y : Int) + (n : Int)) = (x : Int) - (y : Int) + (n : Int) := i64_id (by have := HN.out.2; omega) (by have := HN.out.2; omega)
                  have hm : Int.tmod ((x : Int) - (y : Int) + (n : Int)) (n : Int) = (e0 : Int) := by
                    rw [show (x : Int) - (y : Int) + (n : Int) = ((x + (n - y) : Nat) : Int) by omega, Int.tmod_eq_emod_of_nonneg (by omega), he0]
                    exact (Int.natCast_emod _ _).symm
                  have hm2 : ((x : Int) + ((n - y : Nat) : Int)) % (n : Int) = (e0 : Int) := by rw [he0]; exact (Int.natCast_emod _ _).symm
                  have hnz : ¬ n = 0 := by omega
                  have hnz2 : ¬ (n : Int) = 0 := by omega
                  have hcell := HY.out.at_ i e0 HI2.out he24
                  have hfr := HY.out.fr (i * 24 + e0)
                  have pe : (0 : Int) ≤ (e0 : Int) := by omega
                  have pl : (e0 : Int) < 24 := by omega
                  have pi : (0 : Int) ≤ (i : Int) := by omega
                  have hwm : IntKind.i64.wrap (e0 : Int) = (e0 : Int) := i64_id (by omega) (by omega)
                  have HE0 := Aside0.mk he0
                  clear he0
                  go_wp2_with fail
                  go_region
                  go_wp2_with fail
                  go_roundg (n - (y + 1))
                  case measure => omega
                  case rel =>
                    refine ⟨y + 1, by go_num, by omega, ⟨?_⟩⟩
                    show HaveAt w B (stepH n s i x y (rowH n s i x y (sqH n s i x (diffH n a b i)))) _
                    unfold stepH
                    rw [if_pos (by rw [bx, by_]; rfl), ← HE0.out]
                    exact (HY.out.set HI2.out he24 rfl).drew
                · rw [if_neg by_] at dy
                  go_wp2_with fail
                  go_roundg (n - (y + 1))
                  case measure => omega
                  case rel =>
                    refine ⟨y + 1, by go_num, by omega, ⟨?_⟩⟩
                    show HaveAt w B (stepH n s i x y (rowH n s i x y (sqH n s i x (diffH n a b i)))) _
                    unfold stepH
                    rw [if_neg (by rw [Bool.and_eq_true]; exact fun h => by_ h.2)]
                    exact HY.out
              · rw [if_neg bx] at dx
                go_wp2_with fail
                go_roundg (n - (y + 1))
                case measure => omega
                case rel =>
                  refine ⟨y + 1, by go_num, by omega, ⟨?_⟩⟩
                  show HaveAt w B (stepH n s i x y (rowH n s i x y (sqH n s i x (diffH n a b i)))) _
                  unfold stepH
                  rw [if_neg (by rw [Bool.and_eq_true]; exact fun h => bx h.1)]
                  exact HY.out
            · have hyz : ¬ (y : Int) < (n : Int) := by omega
              have hyn : y = n := by omega
              go_wp2_with fail
              go_roundg (n - (x + 1))
              case measure => omega
              case rel =>
                refine ⟨x + 1, by go_num, by omega, ⟨?_⟩⟩
                show HaveAt w B (rowH n s i x n (sqH n s i x (diffH n a b i))) _
                have h := HY.out
                rw [hyn] at h
                exact h
        · have hxz : ¬ (x : Int) < (n : Int) := by omega
          have hxn : x = n := by omega
          go_wp2_with fail
          go_roundg (2 - (i + 1))
          case measure => omega
          case rel =>
            refine ⟨i + 1, by go_num, by omega, ⟨?_⟩⟩
            rw [HDI.out]
            have h := HX.out
            rw [hxn] at h
            exact h
    · have hiz : ¬ (i : Int) < 2 := by omega
      have hi2 : i = 2 := by omega
      subst hi2
      clear hiz hi
      have HI3 := Aside0.mk (show HaveAt w B F wr by rw [HFD.out]; exact HI.out)
      clear HI
      go_wp2_with fail
      go_loopg [15, 16] (n - 1) (fun gg s15 s16 wr2 => ∃ d : Nat, s16 = .int .i64 ((d + 1 : Nat) : Int) ∧ s15 = .bool (comH F d) ∧ d + 1 + gg = n ∧ Aside0 (HaveAt w B F wr2))
      case atStart => exact ⟨0, rfl, rfl, by omega, ⟨HI3.out⟩⟩
      case round =>
        obtain ⟨d, rfl, rfl, hdg, HC⟩ := hrel
        obtain ⟨C, hC⟩ : ∃ C, C = comH F d := ⟨_, rfl⟩
        rw [← hC]
        have HCD := Aside0.mk hC
        by_cases hd : d + 1 < n
        · have hdz : ((d + 1 : Nat) : Int) < (n : Int) := by omega
          have hdz2 : (d : Int) + 1 < (n : Int) := by omega
          obtain ⟨f0, hf0⟩ : ∃ f, f = F 0 (d + 1) := ⟨_, rfl⟩
          obtain ⟨f1, hf1⟩ : ∃ f, f = F 1 (d + 1) := ⟨_, rfl⟩
          have hc0 := HC.out.at_ 0 (d + 1) (by omega) (by have := HN.out.2; omega)
          have hc1 := HC.out.at_ 1 (d + 1) (by omega) (by have := HN.out.2; omega)
          rw [← hf0, Nat.zero_mul, Nat.zero_add] at hc0
          rw [← hf1, Nat.one_mul] at hc1
          have HF0 := Aside0.mk hf0
          have HF1 := Aside0.mk hf1
          have pd : (0 : Int) ≤ ((d + 1 : Nat) : Int) := by omega
          have pd2 : ((d + 1 : Nat) : Int) < 24 := by have := HN.out.2; omega
          clear hC hf0 hf1
          cases C with
          | true =>
            go_wp2_with fail
            go_roundg (n - (d + 2))
            case measure => omega
            case rel =>
              refine ⟨d + 1, by go_num, ?_, by omega, ⟨HC.out⟩⟩
              show _ = Value.bool (comH F d || (F 0 (d + 1) && F 1 (d + 1)))
              rw [← HCD.out, ← HF0.out, ← HF1.out]
              rfl
          | false =>
            cases f0 with
            | false =>
              go_wp2_with fail
              go_roundg (n - (d + 2))
              case measure => omega
              case rel =>
                refine ⟨d + 1, by go_num, ?_, by omega, ⟨HC.out⟩⟩
                show _ = Value.bool (comH F d || (F 0 (d + 1) && F 1 (d + 1)))
                rw [← HCD.out, ← HF0.out, ← HF1.out]
                rfl
            | true =>
              cases f1 with
              | false =>
                go_wp2_with fail
                go_roundg (n - (d + 2))
                case measure => omega
                case rel =>
                  refine ⟨d + 1, by go_num, ?_, by omega, ⟨HC.out⟩⟩
                  show _ = Value.bool (comH F d || (F 0 (d + 1) && F 1 (d + 1)))
                  rw [← HCD.out, ← HF0.out, ← HF1.out]
                  rfl
              | true =>
                go_wp2_with fail
                go_roundg (n - (d + 2))
                case measure => omega
                case rel =>
                  refine ⟨d + 1, by go_num, ?_, by omega, ⟨HC.out⟩⟩
                  show _ = Value.bool (comH F d || (F 0 (d + 1) && F 1 (d + 1)))
                  rw [← HCD.out, ← HF0.out, ← HF1.out]
                  rfl
        · have hdz : ¬ ((d + 1 : Nat) : Int) < (n : Int) := by omega
          have hdz2 : ¬ (d : Int) + 1 < (n : Int) := by omega
          have HTD2 := Aside0.mk (show T = (!C && decide (SA * SB = n)) by rw [HTC.out, hC, show n - 1 = d by omega])
          clear hC
          cases C with
          | true =>
            have hTf : T = false := by rw [HTD2.out]; rfl
            subst hTf
            go_wp2_with fail
            refine (HAW.out _).mono ?_
            rintro e w9 ⟨rfl, hb9⟩
            have HB9 := Aside0.mk (HC.out.to hb9)
            clear hb9
            go_wp2
            go_ret
            exact ⟨rfl, HB9.out.bl⟩
          | false =>
            cases T with
            | false =>
              have hne : ¬ (SA : Int) * (SB : Int) = (n : Int) := by
                have := HTD2.out
                rw [Bool.not_false, Bool.true_and] at this
                have h3 := of_decide_eq_false this.symm
                rw [← Int.natCast_mul]; omega
              have hwp : IntKind.i64.wrap ((SA : Int) * (SB : Int)) = (SA : Int) * (SB : Int) := by
                have := Nat.mul_le_mul HSL.out.1 HSL.out.2
                rw [← Int.natCast_mul]
                exact i64_id (by omega) (by omega)
              go_wp2_with fail
              refine (HSA.out _).mono ?_
              rintro e w7 ⟨rfl, ⟨q7, rfl⟩⟩
              go_wp2_with fail
              refine (HSB.out _).mono ?_
              rintro e w8 ⟨rfl, ⟨q8, rfl⟩⟩
              go_wp2_with fail
              refine (HAW.out _).mono ?_
              rintro e w9 ⟨rfl, hb9⟩
              have HB9 := Aside0.mk ((HC.out.drewN _).to hb9)
              clear hb9
              go_wp2
              go_ret
              exact ⟨rfl, HB9.out.bl⟩
            | true =>
              have heq : (SA : Int) * (SB : Int) = (n : Int) := by
                have := HTD2.out
                rw [Bool.not_false, Bool.true_and] at this
                have h3 := of_decide_eq_true this.symm
                rw [← Int.natCast_mul]; omega
              have hwn : IntKind.i64.wrap (n : Int) = (n : Int) := i64_id (by omega) (by have := HN.out.2; omega)
              go_wp2_with fail
              refine (HSA.out _).mono ?_
              rintro e w7 ⟨rfl, ⟨q7, rfl⟩⟩
              go_wp2_with fail
              refine (HSB.out _).mono ?_
              rintro e w8 ⟨rfl, ⟨q8, rfl⟩⟩
              go_wp2_with fail
              refine (HRA.out _).mono ?_
              rintro e w9 ⟨va, rfl, hr9, hb9⟩
              have HX9 := Aside0.mk (And.intro hr9 ((HC.out.drewN _).to hb9))
              clear hr9 hb9
              obtain ⟨Aa, ca, ea⟩ := Kd.R_slice HX9.out.1
              subst ea
              go_wp2_with fail
              refine (HRB.out _).mono ?_
              rintro e w10 ⟨vb, rfl, hr10, hb10⟩
              have HX10 := Aside0.mk (And.intro hr10 (And.intro (Kd.R_below HX9.out.1 hb10) (HX9.out.2.to hb10)))
              clear hr10 hb10
              obtain ⟨Ab, cb, eb⟩ := Kd.R_slice HX10.out.1
              subst eb
              go_wp2_with fail
              have HCP := Aside0.mk (And.intro (Kd.R_reads' HX10.out.2.1).2.1 (Kd.R_reads' HX10.out.1).2.1)
              go_loopg [21] (n - 1) (fun gg s21 wr2 => ∃ s : Nat, s21 = .int .i64 (s : Int) ∧ 2 ≤ s ∧ s + gg = n + 1 ∧ Aside0 (Kd.C (Kd.int .i64) wr2 Aa ra.length ra ∧ Kd.C (Kd.int .i64) wr2 Ab rb.length rb ∧ HaveAt w B F wr2))
              case atStart => exact ⟨2, rfl, Nat.le_refl _, by omega, ⟨(Kd.R_reads' HX10.out.2.1).2.2, (Kd.R_reads' HX10.out.1).2.2, HX10.out.2.2⟩⟩
              case round =>
                obtain ⟨s, rfl, hs2, hsg, HS⟩ := hrel
                by_cases hsn : s ≤ n
                · have hsz : (s : Int) ≤ (n : Int) := by omega
                  have hs0 : ¬ s = 0 := by omega
                  have hs0z : ¬ (s : Int) = 0 := by omega
                  by_cases hm : n % s = 0
                  · have hmz : (n : Int) % (s : Int) = 0 := by omega
                    have hmt : Int.tmod (n : Int) (s : Int) = 0 := by rw [Int.tmod_eq_emod_of_nonneg (by omega)]; exact hmz
                    by_cases hA : (s : Int) ∈ ra
                    · go_wp2_with fail
                      refine (HCA.out s Aa ca _ HS.out.1 HCP.out.1).mono ?_
                      rw [decide_eq_true hA]
                      rintro e w11 ⟨rfl, ⟨q11, rfl⟩⟩
                      go_wp2_with fail
                      go_roundg (n - s)
                      case measure => omega
                      case rel => exact ⟨s + 1, by go_num, by omega, by omega, ⟨Kd.C_drewN HS.out.1 _, Kd.C_drewN HS.out.2.1 _, HS.out.2.2.drewN _⟩⟩
                    · have hB : (s : Int) ∈ rb := (HDR.out (by first | rfl | trivial) s hs2 hm).resolve_left hA
                      go_wp2_with fail
                      refine (HCA.out s Aa ca _ HS.out.1 HCP.out.1).mono ?_
                      rw [decide_eq_false hA]
                      rintro e w11 ⟨rfl, ⟨q11, rfl⟩⟩
                      go_wp2_with fail
                      refine (HCB.out s Ab cb _ (Kd.C_drewN HS.out.2.1 _) HCP.out.2).mono ?_
                      rw [decide_eq_true hB]
                      rintro e w12 ⟨rfl, ⟨q12, rfl⟩⟩
                      go_wp2_with fail
                      go_roundg (n - s)
                      case measure => omega
                      case rel => exact ⟨s + 1, by go_num, by omega, by omega, ⟨Kd.C_drewN HS.out.1 _, Kd.C_drewN HS.out.2.1 _, HS.out.2.2.drewN _⟩⟩
                  · have hmz : ¬ (n : Int) % (s : Int) = 0 := by omega
                    have hmt : ¬ Int.tmod (n : Int) (s : Int) = 0 := by rw [Int.tmod_eq_emod_of_nonneg (by omega)]; exact hmz
                    go_wp2_with fail
                    go_roundg (n - s)
                    case measure => omega
                    case rel => exact ⟨s + 1, by go_num, by omega, by omega, ⟨HS.out.1, HS.out.2.1, HS.out.2.2⟩⟩
                · have hsz : ¬ (s : Int) ≤ (n : Int) := by omega
                  go_wp2_with fail
                  refine (HAW.out _).mono ?_
                  rintro e w13 ⟨rfl, hb13⟩
                  have HB13 := Aside0.mk (HS.out.2.2.to hb13)
                  clear hb13
                  go_wp2
                  go_ret
                  exact ⟨rfl, HB13.out.bl⟩
set_option maxHeartbeats 8000000 in
set_option maxRecDepth 100000 in
theorem fills_bad (a0 a1 a2 : Int) (w : World) (hv : ¬ (ValidR a0 a1 ∧ ValidR a0 a2)) : Calls Try.prog 6 #[.int .i64 a0, .int .i64 a1, .int .i64 a2] w fun e w' => e = .returned (.bool true) ∧ Below w.heap.size w w' := by
  obtain ⟨k1, hk1⟩ := Ev.rounds (Tiles_ev a0 a1 a2)
  rw [if_neg hv] at hk1
  have HT1 := Aside0.mk (fun V => canon_Tiles.calls k1 a0 a1 a2 false 2 V hk1)
  obtain ⟨kw, hkw⟩ := Ev.rounds (g := fun k => sackbutlaw02_awake.f k) awake_ev
  have HAW := Aside0.mk (fun V => sackbutlaw02_awake.calls kw true V hkw)
  clear hk1 hkw hv
  go_enter Try.func6, Try.ntmps6
  go_wp2_with fail
  refine (HT1.out _).mono ?_
  rintro e w1 ⟨rfl, hb1⟩
  have HB1 := Aside0.mk hb1
  clear hb1
  go_wp2_with fail
  refine (HAW.out _).mono ?_
  rintro e w13 ⟨rfl, hb13⟩
  have HB13 := Aside0.mk (below_step HB1.out hb13)
  clear hb13
  go_wp2
  go_ret
  exact ⟨rfl, HB13.out⟩
theorem sackbutlaw02_CanonFills.walk (P : sackbutlaw02_CanonFills.Pure) (a0 a1 a2 : Int) (w : World) (w0 : (Lit.int .i64 a0).wf = true) (w1 : (Lit.int .i64 a1).wf = true) (w2 : (Lit.int .i64 a2).wf = true) :
    Calls Try.prog 6 #[.int .i64 a0, .int .i64 a1, .int .i64 a2] w fun e w' => e = .returned (.bool true) ∧ Below w.heap.size w w' := by
  by_cases hv : ValidR a0 a1 ∧ ValidR a0 a2
  · obtain ⟨n, a, rfl, rfl, h2, h24, hA, h0⟩ := validR_nat hv.1
    obtain ⟨m, b, e, rfl, _, _, hB, b0⟩ := validR_nat hv.2
    obtain rfl : n = m := by omega
    exact fills_good h2 h24 hA hB h0 b0 w
  · exact fills_bad a0 a1 a2 w hv

end Go.Proofs.Ytkidgakjeahebaa.P
namespace Go.Proofs.Ytkidgakjeahebaa.P
open Go.RowKit Go.Proofs.YtkidgakjeahebaaW.PrintWords Go.Proofs.YtkidgakjeahebaaW.PrintLast Go.Proofs.YtkidgakjeahebaaW.PrintMore
attribute [local go_sem] max2_int min2_int max_two min_two max_three min_three max_four min_four   -- for this text's walks alone
set_option linter.unusedVariables false
set_option linter.unusedSimpArgs false

theorem CanonFills : sackbutlaw02_CanonFills.Pure := trivial

end Go.Proofs.Ytkidgakjeahebaa.P
namespace Go.Proofs.Ytkidgakjeahebaa.Pure
theorem CanonFills : Go.Proofs.Ytkidgakjeahebaa.P.sackbutlaw02_CanonFills.Pure := Go.Proofs.Ytkidgakjeahebaa.P.CanonFills
end Go.Proofs.Ytkidgakjeahebaa.Pure
namespace Go.Proofs.Ytkidgakjeahebaa.canonFills
open Go.ChangeShapes Go.WideShapes Go.ChangeAt Go.RowKit
open Go.ChangeMaps (open_string shut_string)
set_option linter.unusedVariables false
theorem own : ownKnob Try.prog.godebug = none := by kernel_rfl
set_option maxRecDepth 100000 in
theorem lifted (os : Os) (started : os.Started) (H : Type) (enc : TypeId × Value → H) :
    ReturnsInHanded {} Try.checked os 6 .any (Rows.canonFillsSpec.pre6 enc Try.prog Try.f6 Rows.canonFillsRow.domain false) (Rows.canonFillsSpec.post enc Try.prog Try.f6 false true false false) := by
  refine returnsInHanded_of_change_sized (C := Try.checked) own started (by kernel_rfl) Try.func6
    (ChangeSpec.witness6 (enc := enc) (C := Try.checked) false ⟨#[], #[.int .i64 0, .int .i64 0, .int .i64 0], []⟩ 8 (by kernel_rfl) (by kernel_rfl) (by kernel_rfl) (by kernel_rfl)) ?_
  intro W base args ds gs before hval0 hW hcnd hsz0 _
  have hsz : (DataW.weightsEach Try.prog (Try.f6.params.toList ++ Rows.canonFillsSpec.plain.varTypes Try.prog) (ds ++ gs)).all (· ≤ reachBytes) = true := hsz0
  have hval : ∀ (j : Nat) t v, Try.f6.params[j]? = some t → args[j]? = some v → Value.okWide Try.prog W .any base t v := hval0
  have hW' := hW
  obtain ⟨p, q, hA0, hV, rfl, hfz, hnd⟩ := hW
  have hA : DataW.TrodAll enc Try.prog W 0 (fun _ => true) true Try.f6.params.toList args.toList ds p := hA0
  rw [Try.params6] at hA hval hsz
  obtain ⟨v0, vs0, d0, ds0, p0, q0, hargs, rfl, rfl, h0, r0⟩ := trodAll_cons hA
  obtain ⟨v1, vs1, d1, ds1, p1, q1, rfl, rfl, rfl, h1, r1⟩ := trodAll_cons r0
  obtain ⟨v2, vs2, d2, ds2, p2, q2, rfl, rfl, rfl, h2, r2⟩ := trodAll_cons r1
  obtain ⟨rfl, rfl, rfl⟩ := trodAll_nil r2
  obtain rfl : args = #[v0, v1, v2] := by cases args; simp_all
  obtain ⟨rfl, rfl⟩ := trodVars_none hV
  obtain ⟨a0, rfl, rfl, rfl, w0⟩ := open_int Try.underlying3 (hval 0 3 v0 rfl rfl) h0
  obtain ⟨a1, rfl, rfl, rfl, w1⟩ := open_int Try.underlying3 (hval 1 3 v1 rfl rfl) h1
  obtain ⟨a2, rfl, rfl, rfl, w2⟩ := open_int Try.underlying3 (hval 2 3 v2 rfl rfl) h2
  clear hA0 hval0 hsz0 hsz
  refine (P.sackbutlaw02_CanonFills.walk Pure.CanonFills a0 a1 a2 W w0 w1 w2).mono fun e W' ⟨he, bel⟩ => ?_
  subst he
  exact ⟨_, rfl, _, _, _, [], _, [], hW', trodAll_mk1 (shut_bool Try.underlying4 _), (trodAll_cons_mk (shut_int Try.underlying3 w0) (trodAll_cons_mk (shut_int Try.underlying3 w1) (trodAll_cons_mk (shut_int Try.underlying3 w2) trodAll_mk0))), rfl, bel.frame _, fun h => by cases h⟩
theorem over : Rows.canonFillsRow.holds Try.pinned (OpenSpec.ofChange Rows.canonFillsSpec) :=
  OpenClaim.holds_of_wide 6 Try.f6 rfl rfl rfl rfl rfl rfl rfl ⟨rfl, rfl, rfl, rfl, rfl⟩ rfl rfl rfl rfl rfl (by kernel_rfl) Try.func6 (by kernel_rfl)
    (of_decide_eq_true (by kernel_rfl)) (by unfold Func.isWrapper; first | (rw [if_pos (by decide +kernel)]; kernel_rfl) | (rw [if_neg (by decide +kernel)]; exact ⟨rfl, rfl⟩))
    (fun os started H enc _ => lifted os started H enc)
theorem proved : Rows.CanonFillsSaid := over
#print axioms proved
end Go.Proofs.Ytkidgakjeahebaa.canonFills
namespace Go.Proofs.Ytkidgakjeahebaa
/-- The row, under a short name, for the claim. -/
theorem canonFills_holds : Rows.CanonFillsSaid := canonFills.proved
end Go.Proofs.Ytkidgakjeahebaa
