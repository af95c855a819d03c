/- Proved here: the Go function sackbuttop.TopSilent returns true for every input (its printed form comes to true), whatever its arguments. Conditions: none beyond the row's own reach in memory. -/
import Derived.Test.YtfpnojcbhbkfaaaRows
import Derived.WalkKit
import Derived.ProofKit
import Derived.OpenShut
import Derived.ShutString
import Derived.ChangeOld
import Derived.Below
import Derived.SizedLaws
import Derived.Test.YtfpnojcbhbkfaaaCTopSilent1
import Derived.Test.YtfpnojcbhbkfaaaCTopSilent2
import Derived.Test.YtfpnojcbhbkfaaaCTopSilent3
import Derived.Test.YtfpnojcbhbkfaaaCTopSilent4
import Derived.Test.YtfpnojcbhbkfaaaCTopSilent5
import Derived.Test.YtfpnojcbhbkfaaaCTopSilent6
import Derived.Test.YtfpnojcbhbkfaaaCTopSilent7
namespace Go.Proofs.Ytfpnojcbhbkfaaa.P
/-! Roots of rhythms by sums of primitive roots of 1 (they are whole numbers). Plain Lean. -/
/-- the sums of the j-th powers of the primitive s-th roots of 1 -/
def cT : List (List Int) := [[], [1], [1, -1], [2, -1, -1], [2, 0, -2, 0], [4, -1, -1, -1, -1], [2, 1, -1, -2, -1, 1], [6, -1, -1, -1, -1, -1, -1], [4, 0, 0, 0, -4, 0, 0, 0], [6, 0, 0, -3, 0, 0, -3, 0, 0], [4, 1, -1, 1, -1, -4, -1, 1, -1, 1], [10, -1, -1, -1, -1, -1, -1, -1, -1, -1, -1], [4, 0, 2, 0, -2, 0, -4, 0, -2, 0, 2, 0], [12, -1, -1, -1, -1, -1, -1, -1, -1, -1, -1, -1, -1], [6, 1, -1, 1, -1, 1, -1, -6, -1, 1, -1, 1, -1, 1], [8, 1, 1, -2, 1, -4, -2, 1, 1, -2, -4, 1, -2, 1, 1], [8, 0, 0, 0, 0, 0, 0, 0, -8, 0, 0, 0, 0, 0, 0, 0], [16, -1, -1, -1, -1, -1, -1, -1, -1, -1, -1, -1, -1, -1, -1, -1, -1], [6, 0, 0, 3, 0, 0, -3, 0, 0, -6, 0, 0, -3, 0, 0, 3, 0, 0], [18, -1, -1, -1, -1, -1, -1, -1, -1, -1, -1, -1, -1, -1, -1, -1, -1, -1, -1], [8, 0, 2, 0, -2, 0, 2, 0, -2, 0, -8, 0, -2, 0, 2, 0, -2, 0, 2, 0], [12, 1, 1, -2, 1, 1, -2, -6, 1, -2, 1, 1, -2, 1, -6, -2, 1, 1, -2, 1, 1], [10, 1, -1, 1, -1, 1, -1, 1, -1, 1, -1, -10, -1, 1, -1, 1, -1, 1, -1, 1, -1, 1], [22, -1, -1, -1, -1, -1, -1, -1, -1, -1, -1, -1, -1, -1, -1, -1, -1, -1, -1, -1, -1, -1, -1], [8, 0, 0, 0, 4, 0, 0, 0, -4, 0, 0, 0, -8, 0, 0, 0, -4, 0, 0, 0, 4, 0, 0, 0]]
def cS (s j : Nat) : Int := (cT.getD s []).getD (j % s) 0
theorem cS_mod (s j : Nat) : cS s (j % s) = cS s j := by unfold cS; rw [Nat.mod_mod]
theorem cS_add {s q : Nat} (h : q % s = 0) (j : Nat) : cS s (j + q) = cS s j := by unfold cS; rw [Nat.add_mod, h, Nat.add_zero, Nat.mod_mod]
theorem upto_zero0 : ∀ n : Nat, upto (fun _ => (0 : Int)) n = 0
  | 0 => rfl
  | n + 1 => by rw [upto, upto_zero0 n]; rfl
theorem upto_plus (f : Nat → Int) (a : Nat) : ∀ b, upto f (a + b) = upto f a + upto (fun i => f (a + i)) b
  | 0 => by simp [upto]
  | b + 1 => by rw [← Nat.add_assoc, upto, upto, upto_plus f a b]; omega
theorem upto_swap (f : Nat → Nat → Int) (n : Nat) : ∀ m, upto (fun i => upto (f i) n) m = upto (fun j => upto (fun i => f i j) m) n
  | 0 => by simp only [upto]; exact (upto_zero0 n).symm
  | m + 1 => by simp only [upto, upto_swap f n m, upto_add]
/-- a sum in rows of d -/
theorem upto_rows (f : Nat → Int) (d : Nat) : ∀ q, upto f (q * d) = upto (fun k => upto (fun j => f (k + j * d)) q) d
  | 0 => by rw [Nat.zero_mul]; simp only [upto]; exact (upto_zero0 d).symm
  | q + 1 => by
    rw [Nat.succ_mul, upto_plus, upto_rows f d q]
    simp only [upto]
    rw [upto_add]
    congr 1
    exact upto_congr (fun k _ => by rw [Nat.add_comm])
/-- what a rhythm's beats sum to -/
def tot (n a : Nat) (g : Nat → Int) : Int := upto (fun k => if a.testBit k then g k else 0) n
theorem tot_congr {n a : Nat} {g h : Nat → Int} (e : ∀ k, k < n → g k = h k) : tot n a g = tot n a h := upto_congr (fun k hk => by rw [e k hk])
/-- s is a root of a -/
def zr (s n a : Nat) : Prop := ∀ m, tot n a (fun k => cS s (k + m)) = 0
theorem per_rows {n a d : Nat} (ha : a < 2 ^ n) (h : IsPer n a d) (g : Nat → Int) : tot n a g = upto (fun k => if a.testBit k then upto (fun j => g (k + j * d)) (n / d) else 0) d := by
  have hd := h.1
  have hn : n = n / d * d := (Nat.div_mul_cancel (Nat.dvd_of_mod_eq_zero h.2.2.1)).symm
  unfold tot
  conv => lhs; rw [hn]
  rw [upto_rows]
  refine upto_congr (fun k hk => ?_)
  have e : ∀ j, j < n / d → a.testBit (k + j * d) = a.testBit k := fun j hj => by
    have hlt : k + j * d < n := by
      have : (j + 1) * d ≤ n / d * d := Nat.mul_le_mul_right d hj
      rw [← hn, Nat.succ_mul] at this; omega
    exact per_bit ha h j k hlt
  cases hb : a.testBit k with
  | true => rw [if_pos rfl]; exact upto_congr (fun j hj => by rw [e j hj, hb, if_pos rfl])
  | false =>
    rw [if_neg (by simp)]
    exact (upto_congr (fun j hj => by rw [e j hj, hb, if_neg (by simp)])).trans (upto_zero0 (n / d))
theorem upto_const (c : Int) : ∀ q : Nat, upto (fun _ => c) q = (q : Int) * c
  | 0 => by simp [upto]
  | q + 1 => by rw [upto, upto_const c q, Int.natCast_add, Int.add_mul]; simp
theorem per_step {g : Nat → Int} {d : Nat} (hg : ∀ k, g (k + d) = g k) (k : Nat) : ∀ j, g (k + j * d) = g k
  | 0 => by rw [Nat.zero_mul, Nat.add_zero]
  | j + 1 => by rw [Nat.succ_mul, ← Nat.add_assoc, hg, per_step hg k j]
theorem tot_fold {n a d : Nat} (ha : a < 2 ^ n) (h : IsPer n a d) {g : Nat → Int} (hg : ∀ k, g (k + d) = g k) : tot n a g = ((n / d : Nat) : Int) * tot d (a &&& (2 ^ d - 1)) g := by
  rw [per_rows ha h]
  unfold tot
  rw [← upto_mul]
  refine upto_congr (fun k hk => ?_)
  rw [Nat.testBit_and, Nat.testBit_two_pow_sub_one, decide_eq_true hk, Bool.and_true]
  cases a.testBit k with
  | true =>
    rw [if_pos rfl, if_pos rfl, ← upto_const]
    exact upto_congr (fun j _ => per_step hg k j)
  | false => rw [if_neg (by simp), if_neg (by simp), Int.mul_zero]
theorem ram_rows : ((List.range 25).all fun n => (List.range n).all fun d => (List.range 25).all fun s => !(decide (n % (d + 1) = 0) && decide (n % s = 0) && decide (¬ (d + 1) % s = 0)) || (List.range s).all fun m => decide (upto (fun j => cS s (m + j * (d + 1))) (n / (d + 1)) = 0)) = true := by kernel_rfl
theorem ram_row {n d s : Nat} (hn : n ≤ 24) (hn1 : 1 ≤ n) (hd : 1 ≤ d) (hnd : n % d = 0) (hs1 : 1 ≤ s) (hns : n % s = 0) (hds : ¬ d % s = 0) (m : Nat) : upto (fun j => cS s (m + j * d)) (n / d) = 0 := by
  have hdn : d ≤ n := Nat.le_of_dvd (by omega) (Nat.dvd_of_mod_eq_zero hnd)
  have hsn : s ≤ n := Nat.le_of_dvd (by omega) (Nat.dvd_of_mod_eq_zero hns)
  have h := ram_rows
  simp only [List.all_eq_true, List.mem_range] at h
  have h := h n (by omega) (d - 1) (by omega) s (by omega)
  rw [show d - 1 + 1 = d by omega, decide_eq_true hnd, decide_eq_true hns, decide_eq_true hds, Bool.and_self, Bool.and_self, Bool.not_true, Bool.false_or, List.all_eq_true] at h
  have h := of_decide_eq_true (h (m % s) (List.mem_range.2 (Nat.mod_lt _ hs1)))
  rw [← h]
  refine upto_congr (fun j _ => ?_)
  rw [← cS_mod s (m + j * d), ← cS_mod s (m % s + j * d)]
  congr 1
  rw [Nat.mod_add_mod]
/-- a rhythm with a period has each root that does not divide it -/
theorem zr_per {n a d s : Nat} (hn : n ≤ 24) (hn1 : 1 ≤ n) (ha : a < 2 ^ n) (h : IsPer n a d) (hs1 : 1 ≤ s) (hns : n % s = 0) (hds : ¬ d % s = 0) : zr s n a := by
  intro m
  rw [per_rows ha h]
  refine (upto_congr (fun k _ => ?_)).trans (upto_zero0 d)
  cases a.testBit k with
  | false => rw [if_neg (by simp)]
  | true =>
    rw [if_pos rfl, ← ram_row hn hn1 h.1 h.2.2.1 hs1 hns hds (k + m)]
    exact upto_congr (fun j _ => by congr 1; omega)
theorem zr_fold {n a d s : Nat} (ha : a < 2 ^ n) (h : IsPer n a d) (hds : d % s = 0) (hz : zr s d (a &&& (2 ^ d - 1))) : zr s n a := by
  intro m
  rw [tot_fold ha h (fun k => by rw [show k + d + m = k + m + d by omega, cS_add hds]), hz m, Int.mul_zero]
theorem zr_fold' {n a d s : Nat} (ha : a < 2 ^ n) (h : IsPer n a d) (hds : d % s = 0) (hz : zr s n a) : zr s d (a &&& (2 ^ d - 1)) := by
  intro m
  have := hz m
  rw [tot_fold ha h (fun k => by rw [show k + d + m = k + m + d by omega, cS_add hds])] at this
  have hq : ((n / d : Nat) : Int) ≠ 0 := by
    have : 1 ≤ n / d := Nat.div_pos h.2.1 h.1
    omega
  exact (Int.mul_eq_zero.1 this).resolve_left hq
/-- the places of a tile are different in one period of the other one -/
theorem tile_apart {n a b d : Nat} (ha : a < 2 ^ n) (a0 : a.testBit 0 = true) (h : IsPer n a d) (ht : Tiled n a b) {y z : Nat} (hy : y < n) (hz : z < n) (by1 : b.testBit y = true) (bz : b.testBit z = true) (e : y % d = z % d) : y = z := by
  have hf := (tiled_fills.1 ht).2 y hy y hy z hz by1 bz (moveN_self ha a0 hy)
  refine hf ?_
  rw [move_fold ha h hy hz, ← e, ← move_fold ha h hy hy]
  exact moveN_self ha a0 hy
theorem fold_tile {n a b d : Nat} (ha : a < 2 ^ n) (h : IsPer n a d) (ht : Tiled n a b) : Tiled d (a &&& (2 ^ d - 1)) (modSet n d b) := by
  have hd := h.1
  have hdn := h.2.1
  rw [tiled_fills] at ht ⊢
  obtain ⟨h1, h2⟩ := ht
  refine ⟨fun x hx => ?_, fun x hx y hy z hz hy1 hz1 hy2 hz2 => ?_⟩
  · obtain ⟨y, hy, hcy, hm⟩ := h1 x (by omega)
    refine ⟨y % d, Nat.mod_lt _ hd, modSet_bit.2 ⟨y, hy, hcy, rfl⟩, ?_⟩
    rw [move_fold ha h (by omega) hy, Nat.mod_eq_of_lt hx] at hm; exact hm
  · obtain ⟨y', hy', hcy, rfl⟩ := modSet_bit.1 hy1
    obtain ⟨z', hz', hcz, rfl⟩ := modSet_bit.1 hz1
    have e1 := move_fold ha h (show x < n by omega) hy'
    have e2 := move_fold ha h (show x < n by omega) hz'
    rw [Nat.mod_eq_of_lt hx] at e1 e2
    rw [h2 x (by omega) y' hy' z' hz' hcy hcz (e1.trans hy2) (e2.trans hz2)]
theorem upto_one_of {p : Nat → Prop} [DecidablePred p] : ∀ q : Nat, (∀ i, i < q → ∀ j, j < q → p i → p j → i = j) → upto (fun j => if p j then (1 : Int) else 0) q = if ∃ j, j < q ∧ p j then 1 else 0
  | 0, _ => by rw [if_neg (by rintro ⟨j, h, _⟩; omega)]; rfl
  | q + 1, h => by
    have ih := upto_one_of q (fun i hi j hj => h i (by omega) j (by omega))
    rw [upto, ih]
    by_cases hq : p q
    · rw [if_pos hq, if_neg (by rintro ⟨j, hj, hp⟩; have := h j (by omega) q (by omega) hp hq; omega), if_pos ⟨q, by omega, hq⟩]; rfl
    · rw [if_neg hq]
      by_cases he : ∃ j, j < q ∧ p j
      · obtain ⟨j, hj, hp⟩ := he
        rw [if_pos ⟨j, hj, hp⟩, if_pos ⟨j, by omega, hp⟩]; rfl
      · rw [if_neg he, if_neg (by
          rintro ⟨j, hj, hp⟩
          rcases Nat.lt_or_ge j q with c | c
          · exact he ⟨j, c, hp⟩
          · rw [show j = q by omega] at hp; exact hq hp)]; rfl
theorem upto_mul_r (f : Nat → Int) (c : Int) (n : Nat) : upto (fun i => f i * c) n = upto f n * c := by
  rw [Int.mul_comm, ← upto_mul]; exact upto_congr (fun i _ => Int.mul_comm _ _)
theorem tot_mod {n b d : Nat} (hd : 1 ≤ d) (hnd : n % d = 0) (hap : ∀ y, y < n → ∀ z, z < n → b.testBit y = true → b.testBit z = true → y % d = z % d → y = z) {g : Nat → Int} (hg : ∀ k, g (k + d) = g k) : tot n b g = tot d (modSet n d b) g := by
  have hn : n = n / d * d := (Nat.div_mul_cancel (Nat.dvd_of_mod_eq_zero hnd)).symm
  have hlt : ∀ k j, k < d → j < n / d → k + j * d < n := fun k j hk hj => by
    have : (j + 1) * d ≤ n / d * d := Nat.mul_le_mul_right d hj
    rw [← hn, Nat.succ_mul] at this; omega
  have hkm : ∀ k j, k < d → (k + j * d) % d = k := fun k j hk => by rw [Nat.add_mul_mod_self_right, Nat.mod_eq_of_lt hk]
  unfold tot
  conv => lhs; rw [hn]
  rw [upto_rows]
  refine upto_congr (fun k hk => ?_)
  have e1 : upto (fun j => if b.testBit (k + j * d) = true then g (k + j * d) else 0) (n / d) = upto (fun j => (if b.testBit (k + j * d) = true then (1 : Int) else 0) * g k) (n / d) := upto_congr (fun j _ => by
    rw [per_step hg]; split <;> simp)
  rw [e1, upto_mul_r, upto_one_of (p := fun j => b.testBit (k + j * d) = true) (n / d) (fun i hi j hj h1 h2 => by
    have := hap _ (hlt k i hk hi) _ (hlt k j hk hj) h1 h2 (by rw [hkm k i hk, hkm k j hk])
    exact Nat.eq_of_mul_eq_mul_right hd (by omega))]
  have e2 : (∃ j, j < n / d ∧ b.testBit (k + j * d) = true) ↔ (modSet n d b).testBit k = true := by
    rw [modSet_bit]
    constructor
    · rintro ⟨j, hj, h1⟩; exact ⟨_, hlt k j hk hj, h1, hkm k j hk⟩
    · rintro ⟨y, hy, h1, h2⟩
      refine ⟨y / d, Nat.div_lt_div_of_lt_of_dvd (Nat.dvd_of_mod_eq_zero hnd) hy, ?_⟩
      rw [← h2, Nat.mul_comm, Nat.mod_add_div]; exact h1
  by_cases hm : (modSet n d b).testBit k = true
  · rw [if_pos (e2.2 hm), if_pos hm, Int.one_mul]
  · rw [if_neg (fun h => hm (e2.1 h)), if_neg hm, Int.zero_mul]
theorem zr_mod {n a b d s : Nat} (ha : a < 2 ^ n) (a0 : a.testBit 0 = true) (h : IsPer n a d) (ht : Tiled n a b) (hds : d % s = 0) : zr s n b ↔ zr s d (modSet n d b) := by
  have e : ∀ m, tot n b (fun k => cS s (k + m)) = tot d (modSet n d b) (fun k => cS s (k + m)) := fun m =>
    tot_mod h.1 h.2.2.1 (fun y hy z hz h1 h2 he => tile_apart ha a0 h ht hy hz h1 h2 he) (fun k => by rw [show k + d + m = k + m + d by omega, cS_add hds])
  exact ⟨fun hz m => by rw [← e m]; exact hz m, fun hz m => by rw [e m]; exact hz m⟩
theorem fold_bit0 {a d : Nat} (hd : 1 ≤ d) (a0 : a.testBit 0 = true) : (a &&& (2 ^ d - 1)).testBit 0 = true := by
  rw [Nat.testBit_and, Nat.testBit_two_pow_sub_one, a0, decide_eq_true (show 0 < d by omega)]; rfl
theorem fold_lt (a d : Nat) : a &&& (2 ^ d - 1) < 2 ^ d := by have := Nat.two_pow_pos d; have := @Nat.and_le_right a (2 ^ d - 1); omega
/-- **of two rhythms that fill the circle one has each divisor as a root** -/
theorem div_roots : ∀ n : Nat, 2 ≤ n → n ≤ 24 → ∀ a b : Nat, a < 2 ^ n → b < 2 ^ n → a.testBit 0 = true → b.testBit 0 = true → Tiled n a b → ∀ s, 2 ≤ s → n % s = 0 → zr s n a ∨ zr s n b := by
  intro n
  induction n using Nat.strongRecOn with
  | ind n ih =>
    intro h2 h24 a b ha hb a0 b0 ht s hs hns
    have side : ∀ a b, a < 2 ^ n → b < 2 ^ n → a.testBit 0 = true → b.testBit 0 = true → Tiled n a b → perB n a = true → zr s n a ∨ zr s n b := by
      intro a b ha hb a0 b0 ht hp
      obtain ⟨d, hdn, h⟩ := perB_iff.1 hp
      by_cases hds : d % s = 0
      · have hd2 : 2 ≤ d := Nat.le_trans hs (Nat.le_of_dvd h.1 (Nat.dvd_of_mod_eq_zero hds))
        rcases ih d hdn hd2 (by omega) _ _ (fold_lt a d) (modSet_lt h.1) (fold_bit0 h.1 a0) (modSet_bit.2 ⟨0, by omega, b0, Nat.zero_mod d⟩) (fold_tile ha h ht) s hs hds with hz | hz
        · exact .inl (zr_fold ha h hds hz)
        · exact .inr ((zr_mod ha a0 h ht hds).2 hz)
      · exact .inl (zr_per h24 (by omega) ha h (by omega) hns hds)
    rcases hajos h2 h24 ha hb a0 b0 ht with hp | hp
    · exact side a b ha hb a0 b0 ht hp
    · exact (side b a hb ha b0 a0 (tiled_symm ha hb ht) hp).symm
end Go.Proofs.Ytfpnojcbhbkfaaa.P
namespace Go.Proofs.Ytfpnojcbhbkfaaa.P
open Go.RowKit Go.Proofs.YtfpnojcbhbkfaaaW.PrintWords Go.Proofs.YtfpnojcbhbkfaaaW.PrintLast Go.Proofs.YtfpnojcbhbkfaaaW.PrintMore
attribute [local go_sem] max2_int min2_int max_two min_two max_three min_three max_four min_four   -- for this text's walks alone
set_option linter.unusedVariables false
set_option linter.unusedSimpArgs false

/-! a root by division is a root by sums -/
def tT : List (List (List Int)) := [[], [[1]], [[1], [-1]], [[1, 0], [0, 1], [-1, -1]], [[1, 0], [0, 1], [-1, 0], [0, -1]], [[1, 0, 0, 0], [0, 1, 0, 0], [0, 0, 1, 0], [0, 0, 0, 1], [-1, -1, -1, -1]], [[1, 0], [0, 1], [-1, 1], [-1, 0], [0, -1], [1, -1]], [[1, 0, 0, 0, 0, 0], [0, 1, 0, 0, 0, 0], [0, 0, 1, 0, 0, 0], [0, 0, 0, 1, 0, 0], [0, 0, 0, 0, 1, 0], [0, 0, 0, 0, 0, 1], [-1, -1, -1, -1, -1, -1]], [[1, 0, 0, 0], [0, 1, 0, 0], [0, 0, 1, 0], [0, 0, 0, 1], [-1, 0, 0, 0], [0, -1, 0, 0], [0, 0, -1, 0], [0, 0, 0, -1]], [[1, 0, 0, 0, 0, 0], [0, 1, 0, 0, 0, 0], [0, 0, 1, 0, 0, 0], [0, 0, 0, 1, 0, 0], [0, 0, 0, 0, 1, 0], [0, 0, 0, 0, 0, 1], [-1, 0, 0, -1, 0, 0], [0, -1, 0, 0, -1, 0], [0, 0, -1, 0, 0, -1]], [[1, 0, 0, 0], [0, 1, 0, 0], [0, 0, 1, 0], [0, 0, 0, 1], [-1, 1, -1, 1], [-1, 0, 0, 0], [0, -1, 0, 0], [0, 0, -1, 0], [0, 0, 0, -1], [1, -1, 1, -1]], [[1, 0, 0, 0, 0, 0, 0, 0, 0, 0], [0, 1, 0, 0, 0, 0, 0, 0, 0, 0], [0, 0, 1, 0, 0, 0, 0, 0, 0, 0], [0, 0, 0, 1, 0, 0, 0, 0, 0, 0], [0, 0, 0, 0, 1, 0, 0, 0, 0, 0], [0, 0, 0, 0, 0, 1, 0, 0, 0, 0], [0, 0, 0, 0, 0, 0, 1, 0, 0, 0], [0, 0, 0, 0, 0, 0, 0, 1, 0, 0], [0, 0, 0, 0, 0, 0, 0, 0, 1, 0], [0, 0, 0, 0, 0, 0, 0, 0, 0, 1], [-1, -1, -1, -1, -1, -1, -1, -1, -1, -1]], [[1, 0, 0, 0], [0, 1, 0, 0], [0, 0, 1, 0], [0, 0, 0, 1], [-1, 0, 1, 0], [0, -1, 0, 1], [-1, 0, 0, 0], [0, -1, 0, 0], [0, 0, -1, 0], [0, 0, 0, -1], [1, 0, -1, 0], [0, 1, 0, -1]], [[1, 0, 0, 0, 0, 0, 0, 0, 0, 0, 0, 0], [0, 1, 0, 0, 0, 0, 0, 0, 0, 0, 0, 0], [0, 0, 1, 0, 0, 0, 0, 0, 0, 0, 0, 0], [0, 0, 0, 1, 0, 0, 0, 0, 0, 0, 0, 0], [0, 0, 0, 0, 1, 0, 0, 0, 0, 0, 0, 0], [0, 0, 0, 0, 0, 1, 0, 0, 0, 0, 0, 0], [0, 0, 0, 0, 0, 0, 1, 0, 0, 0, 0, 0], [0, 0, 0, 0, 0, 0, 0, 1, 0, 0, 0, 0], [0, 0, 0, 0, 0, 0, 0, 0, 1, 0, 0, 0], [0, 0, 0, 0, 0, 0, 0, 0, 0, 1, 0, 0], [0, 0, 0, 0, 0, 0, 0, 0, 0, 0, 1, 0], [0, 0, 0, 0, 0, 0, 0, 0, 0, 0, 0, 1], [-1, -1, -1, -1, -1, -1, -1, -1, -1, -1, -1, -1]], [[1, 0, 0, 0, 0, 0], [0, 1, 0, 0, 0, 0], [0, 0, 1, 0, 0, 0], [0, 0, 0, 1, 0, 0], [0, 0, 0, 0, 1, 0], [0, 0, 0, 0, 0, 1], [-1, 1, -1, 1, -1, 1], [-1, 0, 0, 0, 0, 0], [0, -1, 0, 0, 0, 0], [0, 0, -1, 0, 0, 0], [0, 0, 0, -1, 0, 0], [0, 0, 0, 0, -1, 0], [0, 0, 0, 0, 0, -1], [1, -1, 1, -1, 1, -1]], [[1, 0, 0, 0, 0, 0, 0, 0], [0, 1, 0, 0, 0, 0, 0, 0], [0, 0, 1, 0, 0, 0, 0, 0], [0, 0, 0, 1, 0, 0, 0, 0], [0, 0, 0, 0, 1, 0, 0, 0], [0, 0, 0, 0, 0, 1, 0, 0], [0, 0, 0, 0, 0, 0, 1, 0], [0, 0, 0, 0, 0, 0, 0, 1], [-1, 1, 0, -1, 1, -1, 0, 1], [-1, 0, 1, -1, 0, 0, -1, 1], [-1, 0, 0, 0, 0, -1, 0, 0], [0, -1, 0, 0, 0, 0, -1, 0], [0, 0, -1, 0, 0, 0, 0, -1], [1, -1, 0, 0, -1, 1, 0, -1], [1, 0, -1, 1, -1, 0, 1, -1]], [[1, 0, 0, 0, 0, 0, 0, 0], [0, 1, 0, 0, 0, 0, 0, 0], [0, 0, 1, 0, 0, 0, 0, 0], [0, 0, 0, 1, 0, 0, 0, 0], [0, 0, 0, 0, 1, 0, 0, 0], [0, 0, 0, 0, 0, 1, 0, 0], [0, 0, 0, 0, 0, 0, 1, 0], [0, 0, 0, 0, 0, 0, 0, 1], [-1, 0, 0, 0, 0, 0, 0, 0], [0, -1, 0, 0, 0, 0, 0, 0], [0, 0, -1, 0, 0, 0, 0, 0], [0, 0, 0, -1, 0, 0, 0, 0], [0, 0, 0, 0, -1, 0, 0, 0], [0, 0, 0, 0, 0, -1, 0, 0], [0, 0, 0, 0, 0, 0, -1, 0], [0, 0, 0, 0, 0, 0, 0, -1]], [[1, 0, 0, 0, 0, 0, 0, 0, 0, 0, 0, 0, 0, 0, 0, 0], [0, 1, 0, 0, 0, 0, 0, 0, 0, 0, 0, 0, 0, 0, 0, 0], [0, 0, 1, 0, 0, 0, 0, 0, 0, 0, 0, 0, 0, 0, 0, 0], [0, 0, 0, 1, 0, 0, 0, 0, 0, 0, 0, 0, 0, 0, 0, 0], [0, 0, 0, 0, 1, 0, 0, 0, 0, 0, 0, 0, 0, 0, 0, 0], [0, 0, 0, 0, 0, 1, 0, 0, 0, 0, 0, 0, 0, 0, 0, 0], [0, 0, 0, 0, 0, 0, 1, 0, 0, 0, 0, 0, 0, 0, 0, 0], [0, 0, 0, 0, 0, 0, 0, 1, 0, 0, 0, 0, 0, 0, 0, 0], [0, 0, 0, 0, 0, 0, 0, 0, 1, 0, 0, 0, 0, 0, 0, 0], [0, 0, 0, 0, 0, 0, 0, 0, 0, 1, 0, 0, 0, 0, 0, 0], [0, 0, 0, 0, 0, 0, 0, 0, 0, 0, 1, 0, 0, 0, 0, 0], [0, 0, 0, 0, 0, 0, 0, 0, 0, 0, 0, 1, 0, 0, 0, 0], [0, 0, 0, 0, 0, 0, 0, 0, 0, 0, 0, 0, 1, 0, 0, 0], [0, 0, 0, 0, 0, 0, 0, 0, 0, 0, 0, 0, 0, 1, 0, 0], [0, 0, 0, 0, 0, 0, 0, 0, 0, 0, 0, 0, 0, 0, 1, 0], [0, 0, 0, 0, 0, 0, 0, 0, 0, 0, 0, 0, 0, 0, 0, 1], [-1, -1, -1, -1, -1, -1, -1, -1, -1, -1, -1, -1, -1, -1, -1, -1]], [[1, 0, 0, 0, 0, 0], [0, 1, 0, 0, 0, 0], [0, 0, 1, 0, 0, 0], [0, 0, 0, 1, 0, 0], [0, 0, 0, 0, 1, 0], [0, 0, 0, 0, 0, 1], [-1, 0, 0, 1, 0, 0], [0, -1, 0, 0, 1, 0], [0, 0, -1, 0, 0, 1], [-1, 0, 0, 0, 0, 0], [0, -1, 0, 0, 0, 0], [0, 0, -1, 0, 0, 0], [0, 0, 0, -1, 0, 0], [0, 0, 0, 0, -1, 0], [0, 0, 0, 0, 0, -1], [1, 0, 0, -1, 0, 0], [0, 1, 0, 0, -1, 0], [0, 0, 1, 0, 0, -1]], [[1, 0, 0, 0, 0, 0, 0, 0, 0, 0, 0, 0, 0, 0, 0, 0, 0, 0], [0, 1, 0, 0, 0, 0, 0, 0, 0, 0, 0, 0, 0, 0, 0, 0, 0, 0], [0, 0, 1, 0, 0, 0, 0, 0, 0, 0, 0, 0, 0, 0, 0, 0, 0, 0], [0, 0, 0, 1, 0, 0, 0, 0, 0, 0, 0, 0, 0, 0, 0, 0, 0, 0], [0, 0, 0, 0, 1, 0, 0, 0, 0, 0, 0, 0, 0, 0, 0, 0, 0, 0], [0, 0, 0, 0, 0, 1, 0, 0, 0, 0, 0, 0, 0, 0, 0, 0, 0, 0], [0, 0, 0, 0, 0, 0, 1, 0, 0, 0, 0, 0, 0, 0, 0, 0, 0, 0], [0, 0, 0, 0, 0, 0, 0, 1, 0, 0, 0, 0, 0, 0, 0, 0, 0, 0], [0, 0, 0, 0, 0, 0, 0, 0, 1, 0, 0, 0, 0, 0, 0, 0, 0, 0], [0, 0, 0, 0, 0, 0, 0, 0, 0, 1, 0, 0, 0, 0, 0, 0, 0, 0], [0, 0, 0, 0, 0, 0, 0, 0, 0, 0, 1, 0, 0, 0, 0, 0, 0, 0], [0, 0, 0, 0, 0, 0, 0, 0, 0, 0, 0, 1, 0, 0, 0, 0, 0, 0], [0, 0, 0, 0, 0, 0, 0, 0, 0, 0, 0, 0, 1, 0, 0, 0, 0, 0], [0, 0, 0, 0, 0, 0, 0, 0, 0, 0, 0, 0, 0, 1, 0, 0, 0, 0], [0, 0, 0, 0, 0, 0, 0, 0, 0, 0, 0, 0, 0, 0, 1, 0, 0, 0], [0, 0, 0, 0, 0, 0, 0, 0, 0, 0, 0, 0, 0, 0, 0, 1, 0, 0], [0, 0, 0, 0, 0, 0, 0, 0, 0, 0, 0, 0, 0, 0, 0, 0, 1, 0], [0, 0, 0, 0, 0, 0, 0, 0, 0, 0, 0, 0, 0, 0, 0, 0, 0, 1], [-1, -1, -1, -1, -1, -1, -1, -1, -1, -1, -1, -1, -1, -1, -1, -1, -1, -1]], [[1, 0, 0, 0, 0, 0, 0, 0], [0, 1, 0, 0, 0, 0, 0, 0], [0, 0, 1, 0, 0, 0, 0, 0], [0, 0, 0, 1, 0, 0, 0, 0], [0, 0, 0, 0, 1, 0, 0, 0], [0, 0, 0, 0, 0, 1, 0, 0], [0, 0, 0, 0, 0, 0, 1, 0], [0, 0, 0, 0, 0, 0, 0, 1], [-1, 0, 1, 0, -1, 0, 1, 0], [0, -1, 0, 1, 0, -1, 0, 1], [-1, 0, 0, 0, 0, 0, 0, 0], [0, -1, 0, 0, 0, 0, 0, 0], [0, 0, -1, 0, 0, 0, 0, 0], [0, 0, 0, -1, 0, 0, 0, 0], [0, 0, 0, 0, -1, 0, 0, 0], [0, 0, 0, 0, 0, -1, 0, 0], [0, 0, 0, 0, 0, 0, -1, 0], [0, 0, 0, 0, 0, 0, 0, -1], [1, 0, -1, 0, 1, 0, -1, 0], [0, 1, 0, -1, 0, 1, 0, -1]], [[1, 0, 0, 0, 0, 0, 0, 0, 0, 0, 0, 0], [0, 1, 0, 0, 0, 0, 0, 0, 0, 0, 0, 0], [0, 0, 1, 0, 0, 0, 0, 0, 0, 0, 0, 0], [0, 0, 0, 1, 0, 0, 0, 0, 0, 0, 0, 0], [0, 0, 0, 0, 1, 0, 0, 0, 0, 0, 0, 0], [0, 0, 0, 0, 0, 1, 0, 0, 0, 0, 0, 0], [0, 0, 0, 0, 0, 0, 1, 0, 0, 0, 0, 0], [0, 0, 0, 0, 0, 0, 0, 1, 0, 0, 0, 0], [0, 0, 0, 0, 0, 0, 0, 0, 1, 0, 0, 0], [0, 0, 0, 0, 0, 0, 0, 0, 0, 1, 0, 0], [0, 0, 0, 0, 0, 0, 0, 0, 0, 0, 1, 0], [0, 0, 0, 0, 0, 0, 0, 0, 0, 0, 0, 1], [-1, 1, 0, -1, 1, 0, -1, 0, 1, -1, 0, 1], [-1, 0, 1, -1, 0, 1, -1, -1, 1, 0, -1, 1], [-1, 0, 0, 0, 0, 0, 0, -1, 0, 0, 0, 0], [0, -1, 0, 0, 0, 0, 0, 0, -1, 0, 0, 0], [0, 0, -1, 0, 0, 0, 0, 0, 0, -1, 0, 0], [0, 0, 0, -1, 0, 0, 0, 0, 0, 0, -1, 0], [0, 0, 0, 0, -1, 0, 0, 0, 0, 0, 0, -1], [1, -1, 0, 1, -1, -1, 1, 0, -1, 1, 0, -1], [1, 0, -1, 1, 0, -1, 0, 1, -1, 0, 1, -1]], [[1, 0, 0, 0, 0, 0, 0, 0, 0, 0], [0, 1, 0, 0, 0, 0, 0, 0, 0, 0], [0, 0, 1, 0, 0, 0, 0, 0, 0, 0], [0, 0, 0, 1, 0, 0, 0, 0, 0, 0], [0, 0, 0, 0, 1, 0, 0, 0, 0, 0], [0, 0, 0, 0, 0, 1, 0, 0, 0, 0], [0, 0, 0, 0, 0, 0, 1, 0, 0, 0], [0, 0, 0, 0, 0, 0, 0, 1, 0, 0], [0, 0, 0, 0, 0, 0, 0, 0, 1, 0], [0, 0, 0, 0, 0, 0, 0, 0, 0, 1], [-1, 1, -1, 1, -1, 1, -1, 1, -1, 1], [-1, 0, 0, 0, 0, 0, 0, 0, 0, 0], [0, -1, 0, 0, 0, 0, 0, 0, 0, 0], [0, 0, -1, 0, 0, 0, 0, 0, 0, 0], [0, 0, 0, -1, 0, 0, 0, 0, 0, 0], [0, 0, 0, 0, -1, 0, 0, 0, 0, 0], [0, 0, 0, 0, 0, -1, 0, 0, 0, 0], [0, 0, 0, 0, 0, 0, -1, 0, 0, 0], [0, 0, 0, 0, 0, 0, 0, -1, 0, 0], [0, 0, 0, 0, 0, 0, 0, 0, -1, 0], [0, 0, 0, 0, 0, 0, 0, 0, 0, -1], [1, -1, 1, -1, 1, -1, 1, -1, 1, -1]], [[1, 0, 0, 0, 0, 0, 0, 0, 0, 0, 0, 0, 0, 0, 0, 0, 0, 0, 0, 0, 0, 0], [0, 1, 0, 0, 0, 0, 0, 0, 0, 0, 0, 0, 0, 0, 0, 0, 0, 0, 0, 0, 0, 0], [0, 0, 1, 0, 0, 0, 0, 0, 0, 0, 0, 0, 0, 0, 0, 0, 0, 0, 0, 0, 0, 0], [0, 0, 0, 1, 0, 0, 0, 0, 0, 0, 0, 0, 0, 0, 0, 0, 0, 0, 0, 0, 0, 0], [0, 0, 0, 0, 1, 0, 0, 0, 0, 0, 0, 0, 0, 0, 0, 0, 0, 0, 0, 0, 0, 0], [0, 0, 0, 0, 0, 1, 0, 0, 0, 0, 0, 0, 0, 0, 0, 0, 0, 0, 0, 0, 0, 0], [0, 0, 0, 0, 0, 0, 1, 0, 0, 0, 0, 0, 0, 0, 0, 0, 0, 0, 0, 0, 0, 0], [0, 0, 0, 0, 0, 0, 0, 1, 0, 0, 0, 0, 0, 0, 0, 0, 0, 0, 0, 0, 0, 0], [0, 0, 0, 0, 0, 0, 0, 0, 1, 0, 0, 0, 0, 0, 0, 0, 0, 0, 0, 0, 0, 0], [0, 0, 0, 0, 0, 0, 0, 0, 0, 1, 0, 0, 0, 0, 0, 0, 0, 0, 0, 0, 0, 0], [0, 0, 0, 0, 0, 0, 0, 0, 0, 0, 1, 0, 0, 0, 0, 0, 0, 0, 0, 0, 0, 0], [0, 0, 0, 0, 0, 0, 0, 0, 0, 0, 0, 1, 0, 0, 0, 0, 0, 0, 0, 0, 0, 0], [0, 0, 0, 0, 0, 0, 0, 0, 0, 0, 0, 0, 1, 0, 0, 0, 0, 0, 0, 0, 0, 0], [0, 0, 0, 0, 0, 0, 0, 0, 0, 0, 0, 0, 0, 1, 0, 0, 0, 0, 0, 0, 0, 0], [0, 0, 0, 0, 0, 0, 0, 0, 0, 0, 0, 0, 0, 0, 1, 0, 0, 0, 0, 0, 0, 0], [0, 0, 0, 0, 0, 0, 0, 0, 0, 0, 0, 0, 0, 0, 0, 1, 0, 0, 0, 0, 0, 0], [0, 0, 0, 0, 0, 0, 0, 0, 0, 0, 0, 0, 0, 0, 0, 0, 1, 0, 0, 0, 0, 0], [0, 0, 0, 0, 0, 0, 0, 0, 0, 0, 0, 0, 0, 0, 0, 0, 0, 1, 0, 0, 0, 0], [0, 0, 0, 0, 0, 0, 0, 0, 0, 0, 0, 0, 0, 0, 0, 0, 0, 0, 1, 0, 0, 0], [0, 0, 0, 0, 0, 0, 0, 0, 0, 0, 0, 0, 0, 0, 0, 0, 0, 0, 0, 1, 0, 0], [0, 0, 0, 0, 0, 0, 0, 0, 0, 0, 0, 0, 0, 0, 0, 0, 0, 0, 0, 0, 1, 0], [0, 0, 0, 0, 0, 0, 0, 0, 0, 0, 0, 0, 0, 0, 0, 0, 0, 0, 0, 0, 0, 1], [-1, -1, -1, -1, -1, -1, -1, -1, -1, -1, -1, -1, -1, -1, -1, -1, -1, -1, -1, -1, -1, -1]], [[1, 0, 0, 0, 0, 0, 0, 0], [0, 1, 0, 0, 0, 0, 0, 0], [0, 0, 1, 0, 0, 0, 0, 0], [0, 0, 0, 1, 0, 0, 0, 0], [0, 0, 0, 0, 1, 0, 0, 0], [0, 0, 0, 0, 0, 1, 0, 0], [0, 0, 0, 0, 0, 0, 1, 0], [0, 0, 0, 0, 0, 0, 0, 1], [-1, 0, 0, 0, 1, 0, 0, 0], [0, -1, 0, 0, 0, 1, 0, 0], [0, 0, -1, 0, 0, 0, 1, 0], [0, 0, 0, -1, 0, 0, 0, 1], [-1, 0, 0, 0, 0, 0, 0, 0], [0, -1, 0, 0, 0, 0, 0, 0], [0, 0, -1, 0, 0, 0, 0, 0], [0, 0, 0, -1, 0, 0, 0, 0], [0, 0, 0, 0, -1, 0, 0, 0], [0, 0, 0, 0, 0, -1, 0, 0], [0, 0, 0, 0, 0, 0, -1, 0], [0, 0, 0, 0, 0, 0, 0, -1], [1, 0, 0, 0, -1, 0, 0, 0], [0, 1, 0, 0, 0, -1, 0, 0], [0, 0, 1, 0, 0, 0, -1, 0], [0, 0, 0, 1, 0, 0, 0, -1]]]
def tS (s c k : Nat) : Int := ((tT.getD s []).getD (k % s) []).getD c 0
theorem tS_add {s q : Nat} (h : q % s = 0) (c k : Nat) : tS s c (k + q) = tS s c k := by unfold tS; rw [Nat.add_mod, h, Nat.add_zero, Nat.mod_mod]
theorem zr_tabC : ((List.range 25).all fun s => s == 0 || (List.range s).all fun o => decide (upto (fun j => (cycN s).getD j 0 * cS s (o + j)) (cycN s).length = 0) && decide (-24 ≤ cS s o) && decide (cS s o ≤ 24)) = true := by kernel_rfl
theorem zr_tabT : ((List.range 25).all fun s => s == 0 || (List.range ((cycN s).length - 1)).all fun c => ((List.range s).all fun o => decide (upto (fun j => (cycN s).getD j 0 * tS s c (o + j)) (cycN s).length = 0)) && (List.range ((cycN s).length - 1)).all fun i => decide (tS s c i = if i = c then 1 else 0)) = true := by kernel_rfl
theorem zr_tabI : ((List.range 25).all fun s => s == 0 || (List.range ((cycN s).length - 1)).all fun c => (List.range s).all fun k => decide (upto (fun m => tS s c ((s - m) % s) * cS s (k + m)) s = (s : Int) * tS s c k)) = true := by kernel_rfl
def valT (T : Nat → Int) (r : List Int) : Int := upto (fun i => r.getD i 0 * T i) r.length
theorem upto_upd {f g : Nat → Int} {i : Nat} : ∀ n : Nat, i < n → (∀ j, j ≠ i → f j = g j) → upto f n = upto g n + (f i - g i)
  | 0, h, _ => by omega
  | n + 1, h, e => by
    rw [upto, upto]
    by_cases hi : i = n
    · subst hi
      rw [upto_congr (fun j hj => e j (by omega))]; omega
    · rw [upto_upd n (by omega) e, e n (by omega)]; omega
theorem valT_set (T : Nat → Int) (r : List Int) (i : Nat) (y : Int) (h : i < r.length) : valT T (r.set i y) = valT T r + (y - r.getD i 0) * T i := by
  unfold valT
  rw [List.length_set, upto_upd (f := fun j => (r.set i y).getD j 0 * T j) (g := fun j => r.getD j 0 * T j) (i := i) r.length h (fun j hj => by
    simp only [List.getD_eq_getElem?_getD]; rw [List.getElem?_set_ne (by omega)])]
  have : (r.set i y).getD i 0 = y := by rw [List.getD_eq_getElem?_getD, List.getElem?_set_self h]; rfl
  rw [this, Int.sub_mul]
theorem wrap_cong (y : Int) : ∃ z, wrap64 y = y + 18446744073709551616 * z := ⟨-((y + 9223372036854775808) / 18446744073709551616), by unfold wrap64; omega⟩
theorem subRow_val (T : Nat → Int) (c : Int) : ∀ (g r : List Int) (o : Nat), o + g.length ≤ r.length → ∃ z, valT T (subRow c g r o) = valT T r - c * upto (fun j => g.getD j 0 * T (o + j)) g.length + 18446744073709551616 * z
  | [], r, o, h => ⟨0, by simp [subRow, upto]⟩
  | x :: xs, r, o, h => by
    simp only [List.length_cons] at h
    obtain ⟨z1, h1⟩ := wrap_cong (c * x)
    obtain ⟨z2, h2⟩ := wrap_cong (r.getD o 0 - wrap64 (c * x))
    obtain ⟨z, hz⟩ := subRow_val T c xs (r.set o (wrap64 (r.getD o 0 - wrap64 (c * x)))) (o + 1) (by rw [List.length_set]; omega)
    refine ⟨z + (z2 - z1) * T o, ?_⟩
    unfold subRow
    rw [hz, valT_set T r o _ (by omega), h2, h1, List.length_cons, upto_first]
    have e : upto (fun i => (x :: xs).getD (i + 1) 0 * T (o + (i + 1))) xs.length = upto (fun j => xs.getD j 0 * T (o + 1 + j)) xs.length := upto_congr (fun i _ => by
      rw [show o + (i + 1) = o + 1 + i by omega]; rfl)
    have e0 : (x :: xs).getD 0 0 = x := rfl
    rw [e, e0, Nat.add_zero]
    generalize upto (fun j => xs.getD j 0 * T (o + 1 + j)) xs.length = U
    generalize T o = t
    generalize r.getD o 0 = v
    have a1 : (v - (c * x + 18446744073709551616 * z1) + 18446744073709551616 * z2 - v) * t = -(c * (x * t)) + 18446744073709551616 * ((z2 - z1) * t) := by
      rw [show v - (c * x + 18446744073709551616 * z1) + 18446744073709551616 * z2 - v = -(c * x) + 18446744073709551616 * (z2 - z1) by omega, Int.add_mul, Int.neg_mul, Int.mul_assoc, Int.mul_assoc]
    rw [a1, Int.mul_add, Int.mul_add]
    omega
theorem divRun_val (T : Nat → Int) (g : List Int) (d : Nat) (hg : g.length = d + 1) (hT : ∀ o, upto (fun j => g.getD j 0 * T (o + j)) g.length = 0) : ∀ (m : Nat) (q r : List Int), m + d ≤ r.length → ∃ z, valT T (divRun g d m q r).2 = valT T r + 18446744073709551616 * z
  | 0, q, r, _ => ⟨0, by simp [divRun]⟩
  | m + 1, q, r, h => by
    obtain ⟨z1, h1⟩ := subRow_val T (r.getD (m + d) 0) g r m (by omega)
    rw [hT, Int.mul_zero, Int.sub_zero] at h1
    obtain ⟨z2, h2⟩ := divRun_val T g d hg hT m (q ++ [r.getD (m + d) 0]) (subRow (r.getD (m + d) 0) g r m) (by rw [subRow_len]; omega)
    refine ⟨z1 + z2, ?_⟩
    unfold divRun
    rw [h2, h1]; omega
theorem valT_bits (T : Nat → Int) (n a : Nat) : valT T (bitsN n a) = tot n a T := by
  unfold valT tot
  rw [bitsN_len]
  refine upto_congr (fun i hi => ?_)
  have : (bitsN n a).getD i 0 = if a.testBit i then 1 else 0 := by
    unfold bitsN
    rw [List.getD_eq_getElem?_getD, List.getElem?_map, List.getElem?_range hi]; rfl
  rw [this]
  cases a.testBit i <;> simp
theorem tab_at {P : Nat → Bool} (h : ((List.range 25).all fun s => s == 0 || P s) = true) {s : Nat} (h1 : 1 ≤ s) (h24 : s ≤ 24) : P s = true := by
  have h := List.all_eq_true.1 h s (List.mem_range.2 (by omega))
  have h0 : (s == 0) = false := beq_eq_false_iff_ne.2 (by omega)
  rw [h0, Bool.false_or] at h
  exact h
theorem cS_rec {s : Nat} (h1 : 1 ≤ s) (h24 : s ≤ 24) (o : Nat) : upto (fun j => (cycN s).getD j 0 * cS s (o + j)) (cycN s).length = 0 := by
  have h := tab_at zr_tabC h1 h24
  rw [List.all_eq_true] at h
  have h := h (o % s) (List.mem_range.2 (Nat.mod_lt _ h1))
  rw [Bool.and_eq_true, Bool.and_eq_true] at h
  refine Eq.trans (upto_congr (fun j _ => ?_)) (of_decide_eq_true h.1.1)
  rw [← cS_mod s (o + j), ← cS_mod s (o % s + j), Nat.mod_add_mod]
theorem cS_bd {s : Nat} (h1 : 1 ≤ s) (h24 : s ≤ 24) (o : Nat) : -24 ≤ cS s o ∧ cS s o ≤ 24 := by
  have h := tab_at zr_tabC h1 h24
  rw [List.all_eq_true] at h
  have h := h (o % s) (List.mem_range.2 (Nat.mod_lt _ h1))
  rw [Bool.and_eq_true, Bool.and_eq_true] at h
  have h2 := of_decide_eq_true h.1.2
  have h3 := of_decide_eq_true h.2
  rw [cS_mod] at h2 h3
  exact ⟨h2, h3⟩
theorem tS_rec {s c : Nat} (h1 : 1 ≤ s) (h24 : s ≤ 24) (hc : c < (cycN s).length - 1) (o : Nat) : upto (fun j => (cycN s).getD j 0 * tS s c (o + j)) (cycN s).length = 0 := by
  have h := tab_at zr_tabT h1 h24
  rw [List.all_eq_true] at h
  have h := h c (List.mem_range.2 hc)
  rw [Bool.and_eq_true, List.all_eq_true] at h
  refine Eq.trans (upto_congr (fun j _ => ?_)) (of_decide_eq_true (h.1 (o % s) (List.mem_range.2 (Nat.mod_lt _ h1))))
  unfold tS; rw [Nat.mod_add_mod]
theorem tS_one {s c i : Nat} (h1 : 1 ≤ s) (h24 : s ≤ 24) (hc : c < (cycN s).length - 1) (hi : i < (cycN s).length - 1) : tS s c i = if i = c then 1 else 0 := by
  have h := tab_at zr_tabT h1 h24
  rw [List.all_eq_true] at h
  have h := h c (List.mem_range.2 hc)
  rw [Bool.and_eq_true, List.all_eq_true, List.all_eq_true] at h
  exact of_decide_eq_true (h.2 i (List.mem_range.2 hi))
theorem tS_inv {s c : Nat} (h1 : 1 ≤ s) (h24 : s ≤ 24) (hc : c < (cycN s).length - 1) (k : Nat) : upto (fun m => tS s c ((s - m) % s) * cS s (k + m)) s = (s : Int) * tS s c k := by
  have h := tab_at zr_tabI h1 h24
  rw [List.all_eq_true] at h
  have h := h c (List.mem_range.2 hc)
  rw [List.all_eq_true] at h
  have e := of_decide_eq_true (h (k % s) (List.mem_range.2 (Nat.mod_lt _ h1)))
  have e2 : tS s c (k % s) = tS s c k := by unfold tS; rw [Nat.mod_mod]
  rw [e2] at e
  rw [← e]
  refine upto_congr (fun m _ => ?_)
  rw [← cS_mod s (k + m), ← cS_mod s (k % s + m), Nat.mod_add_mod]
theorem tot_bd {n a : Nat} {g : Nat → Int} (hg : ∀ k, -24 ≤ g k ∧ g k ≤ 24) : -24 * (n : Int) ≤ tot n a g ∧ tot n a g ≤ 24 * (n : Int) := by
  unfold tot
  induction n with
  | zero => simp [upto]
  | succ n ih =>
    have := hg n
    rw [upto]
    split <;> omega
theorem tot_lin {n a : Nat} (f : Nat → Nat → Int) (cf : Nat → Int) (s : Nat) : tot n a (fun k => upto (fun m => cf m * f m k) s) = upto (fun m => cf m * tot n a (f m)) s := by
  unfold tot
  have e : ∀ k, (if a.testBit k = true then upto (fun m => cf m * f m k) s else 0) = upto (fun m => if a.testBit k = true then cf m * f m k else 0) s := fun k => by
    split
    · rfl
    · exact (upto_zero0 s).symm
  simp only [e]
  rw [upto_swap]
  refine upto_congr (fun m _ => ?_)
  rw [← upto_mul]
  exact upto_congr (fun k _ => by split <;> simp)
theorem divRun_in (g : List Int) (d : Nat) : ∀ (m : Nat) (q r : List Int), InR r → InR (divRun g d m q r).2
  | 0, _, _, h => h
  | m + 1, _, _, h => divRun_in g d m _ _ (subRow_in _ _ _ _ h)
/-- **a root by division is a root by sums** -/
theorem isRt_zr {n a s : Nat} (h1 : 1 ≤ s) (hs : s ≤ n) (hn : n ≤ 24) : isRt n a s = true ↔ zr s n a := by
  obtain ⟨c1, c2, c3⟩ := cyc_len (n := s) h1 (by omega)
  have hg : cycN s = (cycN s).dropLast ++ [1] := by
    have hne : cycN s ≠ [] := fun e => by rw [e] at c1; simp at c1
    conv => lhs; rw [← List.dropLast_concat_getLast hne]
    congr 2
    rw [List.getLast_eq_getElem]
    rw [List.getD_eq_getElem?_getD, List.getElem?_eq_getElem (by omega)] at c3
    exact c3
  have hdl : (cycN s).dropLast.length = (cycN s).length - 1 := List.length_dropLast
  have hgl : (cycN s).length = (cycN s).length - 1 + 1 := by omega
  unfold isRt divQ
  simp only [bitsN_len]
  have hlen := (divRun_len (cycN s) ((cycN s).length - 1) (n - ((cycN s).length - 1)) [] (bitsN n a)).1
  rw [bitsN_len] at hlen
  have hval := fun T hT => divRun_val T (cycN s) ((cycN s).length - 1) hgl hT (n - ((cycN s).length - 1)) [] (bitsN n a) (by rw [bitsN_len]; omega)
  have hhigh := divRun_high (cycN s).dropLast ((cycN s).length - 1) hdl (n - ((cycN s).length - 1)) [] (bitsN n a) (bitsN_in n a) (by rw [bitsN_len]; omega)
  rw [← hg] at hhigh
  have hin := divRun_in (cycN s) ((cycN s).length - 1) (n - ((cycN s).length - 1)) [] (bitsN n a) (bitsN_in n a)
  generalize (divRun (cycN s) ((cycN s).length - 1) (n - ((cycN s).length - 1)) [] (bitsN n a)).2 = rr at hlen hval hhigh hin
  constructor
  · intro hz m
    rw [List.all_eq_true] at hz
    have h0 : ∀ i, rr.getD i 0 = 0 := fun i => by
      rw [List.getD_eq_getElem?_getD]
      cases e : rr[i]? with
      | none => rfl
      | some v => exact of_decide_eq_true (hz v (List.mem_of_getElem? e))
    obtain ⟨z, hv⟩ := hval (fun k => cS s (k + m)) (fun o => by
      exact Eq.trans (upto_congr (fun j _ => by rw [show o + j + m = o + m + j by omega])) (cS_rec h1 (by omega) (o + m)))
    have e0 : valT (fun k => cS s (k + m)) rr = 0 := by
      unfold valT
      refine (upto_congr (fun i _ => ?_)).trans (upto_zero0 _)
      rw [h0 i, Int.zero_mul]
    rw [e0, valT_bits] at hv
    have hb := tot_bd (n := n) (a := a) (g := fun k => cS s (k + m)) (fun k => cS_bd h1 (by omega) _)
    omega
  · intro hz
    have h0 : ∀ i, i < rr.length → rr.getD i 0 = 0 := fun i hi => by
      rcases Nat.lt_or_ge i ((cycN s).length - 1) with hc | hc
      · obtain ⟨z, hv⟩ := hval (tS s i) (tS_rec h1 (by omega) hc)
        rw [valT_bits] at hv
        have e1 : (s : Int) * tot n a (tS s i) = 0 := by
          have e : tot n a (fun k => (s : Int) * tS s i k) = (s : Int) * tot n a (tS s i) := by
            unfold tot
            rw [← upto_mul]
            exact upto_congr (fun k _ => by split <;> simp)
          rw [← e]
          have e2 : tot n a (fun k => (s : Int) * tS s i k) = tot n a (fun k => upto (fun m => tS s i ((s - m) % s) * cS s (k + m)) s) := tot_congr (fun k _ => (tS_inv h1 (by omega) hc k).symm)
          rw [e2, tot_lin (fun m k => cS s (k + m)) (fun m => tS s i ((s - m) % s)) s]
          refine (upto_congr (fun m _ => ?_)).trans (upto_zero0 s)
          rw [hz m, Int.mul_zero]
        have e3 : tot n a (tS s i) = 0 := (Int.mul_eq_zero.1 e1).resolve_left (by omega)
        have e4 : valT (tS s i) rr = rr.getD i 0 := by
          unfold valT
          rw [upto_upd (f := fun j => rr.getD j 0 * tS s i j) (g := fun j => if j = i then 0 else rr.getD j 0 * tS s i j) (i := i) rr.length hi (fun j hj => by rw [if_neg hj])]
          have e5 : upto (fun j => if j = i then 0 else rr.getD j 0 * tS s i j) rr.length = 0 := by
            refine (upto_congr (fun j hj => ?_)).trans (upto_zero0 _)
            by_cases hji : j = i
            · rw [if_pos hji]
            · rw [if_neg hji]
              rcases Nat.lt_or_ge j ((cycN s).length - 1) with hj2 | hj2
              · rw [tS_one h1 (by omega) hc hj2, if_neg hji, Int.mul_zero]
              · rw [hhigh j hj2 (by omega), Int.zero_mul]
          rw [e5, if_pos rfl, tS_one h1 (by omega) hc hc, if_pos rfl]; omega
        rw [e4, e3] at hv
        have := getD_in hin i
        omega
      · exact hhigh i hc (by omega)
    rw [List.all_eq_true]
    intro v hv
    obtain ⟨i, hi, rfl⟩ := List.mem_iff_getElem.1 hv
    have := h0 i hi
    rw [List.getD_eq_getElem?_getD, List.getElem?_eq_getElem hi] at this
    exact decide_eq_true this

end Go.Proofs.Ytfpnojcbhbkfaaa.P
namespace Go.Proofs.Ytfpnojcbhbkfaaa.P
open Go.RowKit Go.Proofs.YtfpnojcbhbkfaaaW.PrintWords Go.Proofs.YtfpnojcbhbkfaaaW.PrintLast Go.Proofs.YtfpnojcbhbkfaaaW.PrintMore
attribute [local go_sem] max2_int min2_int max_two min_two max_three min_three max_four min_four   -- for this text's walks alone
set_option linter.unusedVariables false
set_option linter.unusedSimpArgs false

/-! where a chord's spectrum is 0: roots, and tiles -/
theorem upto_dvd2 {f : Nat → Int} {c : Int} : ∀ n : Nat, (∀ i, i < n → c ∣ f i) → c ∣ upto f n
  | 0, _ => ⟨0, by simp [upto]⟩
  | n + 1, h => by rw [upto]; exact Int.dvd_add (upto_dvd2 n (fun i hi => h i (by omega))) (h n (by omega))
theorem tot_dvd {n a : Nat} {f g : Nat → Int} {c : Int} (h : ∀ k, k < n → c ∣ f k - g k) : c ∣ tot n a f - tot n a g := by
  unfold tot
  have e : upto (fun k => if a.testBit k = true then f k else 0) n - upto (fun k => if a.testBit k = true then g k else 0) n = upto (fun k => if a.testBit k = true then f k - g k else 0) n := by
    clear h
    induction n with
    | zero => rfl
    | succ n ih => rw [upto, upto, upto, ← ih]; split <;> omega
  rw [e]
  refine upto_dvd2 n (fun k hk => ?_)
  split
  · exact h k hk
  · exact ⟨0, by simp⟩
theorem zr_tS {n a s c : Nat} (h1 : 1 ≤ s) (h24 : s ≤ 24) (hc : c < (cycN s).length - 1) (hz : zr s n a) : tot n a (tS s c) = 0 := by
  have e1 : (s : Int) * tot n a (tS s c) = 0 := by
    have e : tot n a (fun k => (s : Int) * tS s c k) = (s : Int) * tot n a (tS s c) := by
      unfold tot
      rw [← upto_mul]
      exact upto_congr (fun k _ => by split <;> simp)
    rw [← e]
    have e2 : tot n a (fun k => (s : Int) * tS s c k) = tot n a (fun k => upto (fun m => tS s c ((s - m) % s) * cS s (k + m)) s) := tot_congr (fun k _ => (tS_inv h1 h24 hc k).symm)
    rw [e2, tot_lin (fun m k => cS s (k + m)) (fun m => tS s c ((s - m) % s)) s]
    refine (upto_congr (fun m _ => ?_)).trans (upto_zero0 s)
    rw [hz m, Int.mul_zero]
  exact (Int.mul_eq_zero.1 e1).resolve_left (by omega)
/-- the spectrum's sum, as a sum over the beats -/
theorem accW_tot {q n u k s : Nat} : ∀ (m x acc : Nat), ∃ z : Int, (accW q n u k ((List.range' x m).map (bitW s)) x acc : Int) = (acc : Int) + upto (fun i => if s.testBit (x + i) = true then (pwN q u (k * (x + i) % n) : Int) else 0) m + (q : Int) * z
  | 0, x, acc => ⟨0, by simp [accW, upto]⟩
  | m + 1, x, acc => by
    obtain ⟨z, hz⟩ := accW_tot (q := q) (n := n) (u := u) (k := k) (s := s) m (x + 1) (acc + bitW s x * pwN q u (k * x % n) % q)
    rw [List.range'_succ, List.map_cons, accW, hz, upto_first]
    have e : upto (fun i => if s.testBit (x + 1 + i) = true then (pwN q u (k * (x + 1 + i) % n) : Int) else 0) m = upto (fun i => if s.testBit (x + (i + 1)) = true then (pwN q u (k * (x + (i + 1)) % n) : Int) else 0) m := upto_congr (fun i _ => by rw [show x + 1 + i = x + (i + 1) by omega])
    rw [e]
    have hd := Nat.div_add_mod (bitW s x * pwN q u (k * x % n)) q
    have hb : ((bitW s x * pwN q u (k * x % n) : Nat) : Int) = if s.testBit (x + 0) = true then (pwN q u (k * (x + 0) % n) : Int) else 0 := by
      unfold bitW
      rw [Nat.add_zero]
      split <;> simp
    refine ⟨z - ((bitW s x * pwN q u (k * x % n) / q : Nat) : Int), ?_⟩
    rw [← hb, Int.mul_sub]
    have hd2 : (q : Int) * ((bitW s x * pwN q u (k * x % n) / q : Nat) : Int) + ((bitW s x * pwN q u (k * x % n) % q : Nat) : Int) = ((bitW s x * pwN q u (k * x % n) : Nat) : Int) := by
      rw [← Int.natCast_mul, ← Int.natCast_add, hd]
    rw [Int.natCast_add]
    omega
theorem turned_tot {q n u k s : Nat} : ∃ z : Int, (turnedV q n u (bitsL n s) k : Int) = tot n s (fun x => (pwN q u (k * x % n) : Int)) + (q : Int) * z := by
  obtain ⟨z, hz⟩ := accW_tot (q := q) (n := n) (u := u) (k := k) (s := s) n 0 0
  refine ⟨z, ?_⟩
  unfold turnedV bitsL
  rw [List.range_eq_range', hz]
  unfold tot
  simp only [Nat.zero_add, Int.natCast_zero, Int.zero_add]
theorem spec_tab : ((List.range' 2 15).all fun n => (List.range n).all fun k => k == 0 || (List.range n).all fun x => decide (((pwN (qF n) (wF n) (k * x % n) : Int) - upto (fun c => (pwN (qF n) (wF n) (k * c % n) : Int) * tS (n / Nat.gcd n k) c x) ((cycN (n / Nat.gcd n k)).length - 1)) % (qF n : Int) = 0)) = true := by kernel_rfl
/-- **where a number is a root, the spectrum is 0 at all places that make that many steps** -/
theorem spec_zero {n s k : Nat} (h2 : 2 ≤ n) (h16 : n ≤ 16) (hk1 : 1 ≤ k) (hk : k < n) (hz : zr (n / Nat.gcd n k) n s) : specN n s k = 0 := by
  have h := List.all_eq_true.1 (List.all_eq_true.1 spec_tab n (List.mem_range'_1.2 ⟨h2, by omega⟩)) k (List.mem_range.2 hk)
  have hk0 : (k == 0) = false := beq_eq_false_iff_ne.2 (by omega)
  rw [hk0, Bool.false_or, List.all_eq_true] at h
  have hg1 : 1 ≤ Nat.gcd n k := Nat.gcd_pos_of_pos_left k (by omega)
  have hr1 : 1 ≤ n / Nat.gcd n k := Nat.div_pos (Nat.le_of_dvd (by omega) (Nat.gcd_dvd_left n k)) hg1
  have hr24 : n / Nat.gcd n k ≤ 24 := Nat.le_trans (Nat.div_le_self _ _) (by omega)
  have hd : (qF n : Int) ∣ tot n s (fun x => (pwN (qF n) (wF n) (k * x % n) : Int)) - tot n s (fun x => upto (fun c => (pwN (qF n) (wF n) (k * c % n) : Int) * tS (n / Nat.gcd n k) c x) ((cycN (n / Nat.gcd n k)).length - 1)) :=
    tot_dvd (fun x hx => Int.dvd_of_emod_eq_zero (of_decide_eq_true (h x (List.mem_range.2 hx))))
  have e0 : tot n s (fun x => upto (fun c => (pwN (qF n) (wF n) (k * c % n) : Int) * tS (n / Nat.gcd n k) c x) ((cycN (n / Nat.gcd n k)).length - 1)) = 0 := by
    rw [tot_lin (fun c x => tS (n / Nat.gcd n k) c x) (fun c => (pwN (qF n) (wF n) (k * c % n) : Int))]
    refine (upto_congr (fun c hc => ?_)).trans (upto_zero0 _)
    have : tot n s (fun x => tS (n / Nat.gcd n k) c x) = 0 := zr_tS hr1 hr24 hc hz
    rw [this, Int.mul_zero]
  rw [e0, Int.sub_zero] at hd
  obtain ⟨y, hy⟩ := hd
  obtain ⟨z, ht⟩ := turned_tot (q := qF n) (n := n) (u := wF n) (k := k) (s := s)
  unfold specN
  have hdv : (qF n : Int) ∣ (turnedV (qF n) n (wF n) (bitsL n s) k : Int) := ⟨y + z, by rw [ht, hy, Int.mul_add]⟩
  exact Nat.mod_eq_zero_of_dvd (Int.natCast_dvd_natCast.1 hdv)
theorem acc_zero {q n u s : Nat} (hq : 2 ≤ q) : ∀ (m x acc : Nat), accW q n u 0 ((List.range' x m).map (bitW s)) x acc = acc + (List.range' x m).countP s.testBit
  | 0, x, acc => by simp [accW]
  | m + 1, x, acc => by
    have h1 : bitW s x * pwN q u (0 * x % n) % q = bitW s x := by
      rw [Nat.zero_mul, Nat.zero_mod, show pwN q u 0 = 1 from rfl, Nat.mul_one]
      refine Nat.mod_eq_of_lt ?_
      unfold bitW; split <;> omega
    rw [List.range'_succ, List.map_cons, accW, h1, acc_zero hq m (x + 1), List.countP_cons]
    unfold bitW
    split <;> omega
theorem spec_at0 {n s : Nat} (h2 : 2 ≤ n) (h16 : n ≤ 16) (h0 : s.testBit 0 = true) : specN n s 0 ≠ 0 := by
  obtain ⟨f1, f2, _⟩ := field_at h2 h16
  have h := acc_zero (q := qF n) (n := n) (u := wF n) (s := s) (by omega) n 0 0
  unfold specN turnedV bitsL
  rw [List.range_eq_range', h, Nat.zero_add]
  have hle : (List.range' 0 n).countP s.testBit ≤ n := by
    have := List.countP_le_length (p := s.testBit) (l := List.range' 0 n)
    rwa [List.length_range'] at this
  have hpos : 0 < (List.range' 0 n).countP s.testBit := List.countP_pos_iff.2 ⟨0, List.mem_range'_1.2 ⟨by omega, by omega⟩, h0⟩
  rw [Nat.mod_eq_of_lt (by omega)]
  omega
/-- **two that fill the circle are silent together everywhere but at 0** -/
theorem sil_tile {n a b : Nat} (h2 : 2 ≤ n) (h16 : n ≤ 16) (ha : a < 2 ^ n) (hb : b < 2 ^ n) (a0 : a.testBit 0 = true) (b0 : b.testBit 0 = true) (ht : Tiled n a b) : silN n a n ||| silN n b n = 2 ^ n - 2 := by
  have hp : 2 ^ 1 ≤ 2 ^ n := Nat.pow_le_pow_right (by omega) (by omega)
  refine bits_ext (n := n) (Nat.or_lt_two_pow (silN_lt n a n) (silN_lt n b n)) (by omega) (fun j hj => ?_)
  rw [Nat.testBit_or, silN_bit, silN_bit, testBit_full2 n j (by omega), decide_eq_true hj, Bool.true_and, Bool.true_and, Bool.true_and]
  by_cases hj1 : 1 ≤ j
  · have hg1 : 1 ≤ Nat.gcd n j := Nat.gcd_pos_of_pos_left j (by omega)
    have hgj : Nat.gcd n j ≤ j := Nat.le_of_dvd (by omega) (Nat.gcd_dvd_right n j)
    have hmul : n / Nat.gcd n j * Nat.gcd n j = n := Nat.div_mul_cancel (Nat.gcd_dvd_left n j)
    have hr2 : 2 ≤ n / Nat.gcd n j := by
      rcases Nat.lt_or_ge (n / Nat.gcd n j) 2 with h | h
      · have h1 : n / Nat.gcd n j ≤ 1 := by omega
        have := Nat.mul_le_mul_right (Nat.gcd n j) h1
        omega
      · exact h
    have hdv : n % (n / Nat.gcd n j) = 0 := Nat.mod_eq_zero_of_dvd ⟨Nat.gcd n j, hmul.symm⟩
    rw [decide_eq_true hj1]
    rcases div_roots n h2 (by omega) a b ha hb a0 b0 ht _ hr2 hdv with hz | hz
    · rw [decide_eq_true (spec_zero h2 h16 hj1 hj hz), Bool.true_or]
    · rw [decide_eq_true (spec_zero h2 h16 hj1 hj hz), Bool.or_true]
  · have hj0 : j = 0 := by omega
    subst hj0
    rw [decide_eq_false hj1, decide_eq_false (spec_at0 h2 h16 a0), decide_eq_false (spec_at0 h2 h16 b0)]
    rfl

end Go.Proofs.Ytfpnojcbhbkfaaa.P
namespace Go.Proofs.Ytfpnojcbhbkfaaa.P
open Go.RowKit Go.Proofs.YtfpnojcbhbkfaaaW.PrintWords Go.Proofs.YtfpnojcbhbkfaaaW.PrintLast Go.Proofs.YtfpnojcbhbkfaaaW.PrintMore
attribute [local go_sem] max2_int min2_int max_two min_two max_three min_three max_four min_four   -- for this text's walks alone
set_option linter.unusedVariables false
set_option linter.unusedSimpArgs false

theorem turns_ev : Ev (fun k => sackbuttop_turns.f k) true := by
  unfold sackbuttop_turns.f
  refine Ev.bind_some (show wheels_Spectrum.f 4 [0, 1, 0, 0] = some ([1, 5, 12, 8], 0) from by unfold wheels_Spectrum.f; rw [if_pos (by decide)]; kernel_rfl) ?_
  simp only [if_true]
  refine Ev.bind (Equal_ev _ _ (by decide)) ?_
  simp only [decide_true]
  exact Ev.some _
theorem gcd_tab : ((List.range' 1 16).all fun n => (List.range 16).all fun k => decide (sackbuttop_gcd.f 60 (n : Int) (k : Int) = some (Nat.gcd n k : Int))) = true := by kernel_rfl
theorem gcd_ev {n k : Nat} (h1 : 1 ≤ n) (h16 : n ≤ 16) (hk : k < 16) : Ev (fun j => sackbuttop_gcd.f j (n : Int) (k : Int)) (Nat.gcd n k : Int) := by
  have h := of_decide_eq_true (List.all_eq_true.1 (List.all_eq_true.1 gcd_tab n (List.mem_range'_1.2 ⟨h1, by omega⟩)) k (List.mem_range.2 hk))
  exact Ev.of (sackbuttop_gcd.mono (n : Int) (k : Int)) h
theorem silent_f {n s : Nat} (h2 : 2 ≤ n) (h16 : n ≤ 16) (hs : s < 2 ^ n) : wheels_Silent.f (n : Int) (s : Int) = some ((silN n s n : Int), 0) := by
  unfold wheels_Silent.f
  rw [Int.toNat_natCast, Int.toNat_natCast, if_pos ⟨by omega, by omega, by omega, by exact_mod_cast hs⟩]
theorem silent_l1 {n a r : Nat} (b : Int) (h2 : 2 ≤ n) (h16 : n ≤ 16) (hr1 : 1 ≤ r) (hrn : r ≤ n) (hrt : isRt n a r = true) (ra : List Int) (L i : Int) (v : Bool)
    (h : Ev (fun k => sackbuttop_TopSilent.l0 k (n : Int) (a : Int) b ra (silN n a n : Int) L (wrap64 (i + 1))) v) : ∀ (m j : Nat), 1 ≤ j → j + m = n →
    Ev (fun k => sackbuttop_TopSilent.l1 k (n : Int) (a : Int) b ra (silN n a n : Int) (r : Int) (j : Int) L i) v := by
  intro m
  induction m with
  | zero =>
    intro j hj hm
    refine Ev.succ ?_
    simp only [sackbuttop_TopSilent.l1, if_neg (show ¬ (j : Int) < (n : Int) by omega)]
    exact h
  | succ m ih =>
    intro j hj hm
    have hg1 : 1 ≤ Nat.gcd n j := Nat.gcd_pos_of_pos_left j (by omega)
    have hdl : n / Nat.gcd n j ≤ n := Nat.div_le_self _ _
    have hq : wrap64 (Int.tdiv (n : Int) (Nat.gcd n j : Int)) = ((n / Nat.gcd n j : Nat) : Int) := by
      rw [Int.tdiv_eq_ediv_of_nonneg (by omega), ← Int.natCast_ediv]
      generalize n / Nat.gcd n j = d at hdl
      exact wrap_id (by omega) (by omega)
    have hw : wrap64 ((j : Int) + 1) = ((j + 1 : Nat) : Int) := by rw [wrap_id (by omega) (by omega)]; omega
    refine Ev.succ ?_
    simp only [sackbuttop_TopSilent.l1, if_pos (show (j : Int) < (n : Int) by omega)]
    refine Ev.bind (gcd_ev (by omega) h16 (by omega)) ?_
    simp only [if_neg (show ¬ (Nat.gcd n j : Int) = 0 by omega), hq, hw]
    by_cases he : n / Nat.gcd n j = r
    · have hz : specN n a j = 0 := spec_zero h2 h16 hj (by omega) (by rw [he]; exact (isRt_zr hr1 hrn (by omega)).1 hrt)
      have hb : ¬ Go.bits .and .i64 (shr .i64 (silN n a n : Int) (j : Int)) 1 = 0 := by
        rw [bit_not (show n ≤ 24 by omega) (silN_lt n a n) (by omega), silN_bit, decide_eq_true (show j < n by omega), decide_eq_true hz]
        simp
      simp only [if_pos (show ((n / Nat.gcd n j : Nat) : Int) = (r : Int) by rw [he]), if_pos (show (0 : Int) ≤ (j : Int) by omega), if_neg hb]
      exact ih (j + 1) (by omega) (by omega)
    · simp only [if_neg (show ¬ ((n / Nat.gcd n j : Nat) : Int) = (r : Int) from fun h => he (Int.ofNat_inj.1 h))]
      exact ih (j + 1) (by omega) (by omega)
theorem silent_l0 {n a : Nat} (b : Int) (h2 : 2 ≤ n) (h16 : n ≤ 16) (ha : a < 2 ^ n) (a0 : a.testBit 0 = true) (rs : List Nat) (hrs : ∀ r ∈ rs, 2 ≤ r ∧ r ≤ n ∧ n % r = 0 ∧ isRt n a r = true) (hl : rs.length < 1000) : ∀ (suf pre : List Nat), rs = pre ++ suf →
    Ev (fun k => sackbuttop_TopSilent.l0 k (n : Int) (a : Int) b (numsI rs) (silN n a n : Int) (rs.length : Int) (pre.length : Int)) true := by
  have hlen : (numsI rs).length = rs.length := by unfold numsI; simp
  have hva : ValidR (n : Int) (a : Int) := by
    have e1 : (a : Int) < ((2 ^ n : Nat) : Int) := by omega
    rw [pow_cast] at e1
    refine ⟨by omega, by omega, by omega, by rw [Int.toNat_natCast]; exact e1, ?_⟩
    have := of_decide_eq_true ((Nat.testBit_zero a).symm.trans a0)
    omega
  intro suf
  induction suf with
  | nil =>
    intro pre hp
    have : rs.length = pre.length := by rw [hp]; simp
    have ht := Tiles_ev (n : Int) (a : Int) b
    have hfin : Ev (fun k => (sackbuttop_turns.f k).bind fun t => some t) true := Ev.bind turns_ev (Ev.some _)
    refine Ev.succ ?_
    simp only [sackbuttop_TopSilent.l0, if_neg (show ¬ (pre.length : Int) < (rs.length : Int) by omega)]
    refine Ev.bind ht ?_
    by_cases hvb : ValidR (n : Int) b
    · rw [if_pos ⟨hva, hvb⟩]
      obtain ⟨m, B, e, rfl, _, _, hB, b0⟩ := validR_nat hvb
      obtain rfl : n = m := by omega
      simp only [if_true, Int.toNat_natCast]
      by_cases hT : Tiled n a B
      · rw [decide_eq_true hT]
        simp only [if_true]
        refine Ev.bind_some (rhythm_f _ _) ?_
        rw [decide_eq_true hvb, Bool.not_true]
        refine Ev.succ ?_
        simp only [sackbuttop_TopSilent.j5, Bool.false_eq_true, if_false]
        refine Ev.bind_some (silent_f h2 h16 hB) ?_
        have hor : Go.bits .or .i64 (silN n a n : Int) (silN n B n : Int) = wrap64 (shl .i64 1 (n : Int) - 2) := by
          rw [or_r (show n ≤ 24 by omega) (silN_lt n a n) (silN_lt n B n), sil_tile h2 h16 ha hB a0 b0 hT, shl1_i64 (by omega)]
          have hp : 2 ^ n ≤ 2 ^ 16 := Nat.pow_le_pow_right (by omega) h16
          have hp1 : 2 ^ 1 ≤ 2 ^ n := Nat.pow_le_pow_right (by omega) (by omega)
          rw [wrap_id (by omega) (by omega)]
          omega
        simp only [if_true, if_pos (show (0 : Int) ≤ (n : Int) by omega), hor]
        exact hfin
      · rw [decide_eq_false hT]
        simp only [Bool.false_eq_true, if_false]
        refine Ev.succ ?_
        simp only [sackbuttop_TopSilent.j5, if_true]
        exact hfin
    · rw [if_neg (fun h => hvb h.2)]
      simp only [if_neg (show ¬ (2 : Int) = 0 by decide)]
      refine Ev.succ ?_
      simp only [sackbuttop_TopSilent.j5, if_true, if_neg (show ¬ (2 : Int) = 0 by decide)]
      exact hfin
  | cons r suf ih =>
    intro pre hp
    have hl2 : rs.length = pre.length + (suf.length + 1) := by rw [hp]; simp
    have hr := hrs r (by rw [hp]; simp)
    have hrd : rd (numsI rs) (pre.length : Int) = (r : Int) := by
      have e : numsI rs = numsI pre ++ (r : Int) :: numsI suf := by rw [hp]; simp [numsI]
      have := mid_rd (pre := numsI pre) e
      have hpl : (numsI pre).length = pre.length := by simp [numsI]
      rw [hpl] at this; exact this
    have hw : wrap64 ((pre.length : Int) + 1) = ((pre ++ [r]).length : Int) := by rw [wrap_id (by omega) (by omega)]; simp
    have ht : (Int.tmod (n : Int) (r : Int) != 0) = false := by
      rw [Int.tmod_eq_emod_of_nonneg (by omega), ← Int.natCast_emod, hr.2.2.1]; rfl
    have go := ih (pre ++ [r]) (by rw [hp]; simp)
    rw [← hw] at go
    refine Ev.succ ?_
    simp only [sackbuttop_TopSilent.l0, if_pos (show (pre.length : Int) < (rs.length : Int) by omega), if_pos (show (0 : Int) ≤ (pre.length : Int) by omega), hlen, hrd, if_neg (show ¬ (r : Int) < 2 by omega), if_neg (show ¬ (r : Int) = 0 by omega), ht]
    refine Ev.succ ?_
    simp only [sackbuttop_TopSilent.j3, Bool.false_eq_true, if_false]
    exact silent_l1 b h2 h16 (by omega) hr.2.1 hr.2.2.2 _ _ _ _ go (n - 1) 1 (Nat.le_refl _) (by omega)
theorem TopSilent : sackbuttop_TopSilent.Pure := by
  intro a0 a1 a2 _ _ _
  refine Ev.rounds (g := fun k => sackbuttop_TopSilent.f k a0 a1 a2) ?_
  have hfin : ∀ x y z, Ev (fun k => sackbuttop_TopSilent.j0 k x y z true) true := fun x y z => by
    refine Ev.succ ?_
    simp only [sackbuttop_TopSilent.j0, if_true]
    exact Ev.bind turns_ev (Ev.some _)
  unfold sackbuttop_TopSilent.f
  refine Ev.bind_some (rhythm_f _ _) ?_
  by_cases hv : ValidR a0 a1
  · rw [decide_eq_true hv]
    simp only [if_true]
    by_cases h16 : a0 > 16
    · rw [decide_eq_true h16]
      exact hfin _ _ _
    · obtain ⟨n, a, rfl, rfl, h2, h24, ha, h0⟩ := validR_nat hv
      have hn16 : n ≤ 16 := by omega
      rw [decide_eq_false h16]
      have hR : Ev (fun k => canon_Roots.f k (n : Int) (a : Int)) (numsI (rootsN n a), 0) := by
        unfold canon_Roots.f
        refine Ev.bind_some (by rw [cvalid1_f, decide_eq_true hv]) ?_
        simp only [if_true]
        exact Ev.bind (roots_ev h2 h24 ha) (Ev.some _)
      refine Ev.succ ?_
      simp only [sackbuttop_TopSilent.j0, Bool.false_eq_true, if_false]
      refine Ev.bind hR ?_
      refine Ev.bind_some (silent_f h2 hn16 ha) ?_
      simp only [if_true, bne_self_eq_false]
      refine Ev.succ ?_
      simp only [sackbuttop_TopSilent.j1, Bool.false_eq_true, if_false]
      have hlen : (numsI (rootsN n a)).length = (rootsN n a).length := by unfold numsI; simp
      rw [hlen]
      exact silent_l0 a2 h2 hn16 ha h0 (rootsN n a) (fun r hr => rootsN_mem.1 hr) (rootsN_len n a h24) (rootsN n a) [] rfl
  · rw [decide_eq_false hv]
    simp only [Bool.false_eq_true, if_false]
    exact hfin _ _ _

end Go.Proofs.Ytfpnojcbhbkfaaa.P
namespace Go.Proofs.Ytfpnojcbhbkfaaa.Pure
theorem TopSilent : Go.Proofs.Ytfpnojcbhbkfaaa.P.sackbuttop_TopSilent.Pure := Go.Proofs.Ytfpnojcbhbkfaaa.P.TopSilent
end Go.Proofs.Ytfpnojcbhbkfaaa.Pure
namespace Go.Proofs.Ytfpnojcbhbkfaaa.topSilent
open Go.ChangeShapes Go.WideShapes Go.ChangeAt Go.RowKit
open Go.ChangeMaps (open_string shut_string)
set_option linter.unusedVariables false
theorem own : ownKnob Try.prog.godebug = none := by kernel_rfl
set_option maxRecDepth 100000 in
theorem lifted (os : Os) (started : os.Started) (H : Type) (enc : TypeId × Value → H) :
    ReturnsInHanded {} Try.checked os 3 .any (Rows.topSilentSpec.pre6 enc Try.prog Try.f3 Rows.topSilentRow.domain false) (Rows.topSilentSpec.post enc Try.prog Try.f3 false true false false) := by
  refine returnsInHanded_of_change_sized (C := Try.checked) own started (by kernel_rfl) Try.func3
    (ChangeSpec.witness6 (enc := enc) (C := Try.checked) false ⟨#[], #[.int .i64 0, .int .i64 0, .int .i64 0], []⟩ 8 (by kernel_rfl) (by kernel_rfl) (by kernel_rfl) (by kernel_rfl)) ?_
  intro W base args ds gs before hval0 hW hcnd hsz0 _
  have hsz : (DataW.weightsEach Try.prog (Try.f3.params.toList ++ Rows.topSilentSpec.plain.varTypes Try.prog) (ds ++ gs)).all (· ≤ reachBytes) = true := hsz0
  have hval : ∀ (j : Nat) t v, Try.f3.params[j]? = some t → args[j]? = some v → Value.okWide Try.prog W .any base t v := hval0
  have hW' := hW
  obtain ⟨p, q, hA0, hV, rfl, hfz, hnd⟩ := hW
  have hA : DataW.TrodAll enc Try.prog W 0 (fun _ => true) true Try.f3.params.toList args.toList ds p := hA0
  rw [Try.params3] at hA hval hsz
  obtain ⟨v0, vs0, d0, ds0, p0, q0, hargs, rfl, rfl, h0, r0⟩ := trodAll_cons hA
  obtain ⟨v1, vs1, d1, ds1, p1, q1, rfl, rfl, rfl, h1, r1⟩ := trodAll_cons r0
  obtain ⟨v2, vs2, d2, ds2, p2, q2, rfl, rfl, rfl, h2, r2⟩ := trodAll_cons r1
  obtain ⟨rfl, rfl, rfl⟩ := trodAll_nil r2
  obtain rfl : args = #[v0, v1, v2] := by cases args; simp_all
  obtain ⟨rfl, rfl⟩ := trodVars_none hV
  obtain ⟨a0, rfl, rfl, rfl, w0⟩ := open_int Try.underlying3 (hval 0 3 v0 rfl rfl) h0
  obtain ⟨a1, rfl, rfl, rfl, w1⟩ := open_int Try.underlying3 (hval 1 3 v1 rfl rfl) h1
  obtain ⟨a2, rfl, rfl, rfl, w2⟩ := open_int Try.underlying3 (hval 2 3 v2 rfl rfl) h2
  clear hA0 hval0 hsz0 hsz
  refine (P.sackbuttop_TopSilent.walk Pure.TopSilent a0 a1 a2 W w0 w1 w2).mono fun e W' ⟨he, bel⟩ => ?_
  subst he
  exact ⟨_, rfl, _, _, _, [], _, [], hW', trodAll_mk1 (shut_bool Try.underlying4 _), (trodAll_cons_mk (shut_int Try.underlying3 w0) (trodAll_cons_mk (shut_int Try.underlying3 w1) (trodAll_cons_mk (shut_int Try.underlying3 w2) trodAll_mk0))), rfl, bel.frame _, fun h => by cases h⟩
theorem over : Rows.topSilentRow.holds Try.pinned (OpenSpec.ofChange Rows.topSilentSpec) :=
  OpenClaim.holds_of_wide 3 Try.f3 rfl rfl rfl rfl rfl rfl rfl ⟨rfl, rfl, rfl, rfl, rfl⟩ rfl rfl rfl rfl rfl (by kernel_rfl) Try.func3 (by kernel_rfl)
    (of_decide_eq_true (by kernel_rfl)) (by unfold Func.isWrapper; first | (rw [if_pos (by decide +kernel)]; kernel_rfl) | (rw [if_neg (by decide +kernel)]; exact ⟨rfl, rfl⟩))
    (fun os started H enc _ => lifted os started H enc)
theorem proved : Rows.TopSilentSaid := over
#print axioms proved
end Go.Proofs.Ytfpnojcbhbkfaaa.topSilent
namespace Go.Proofs.Ytfpnojcbhbkfaaa
/-- The row, under a short name, for the claim. -/
theorem topSilent_holds : Rows.TopSilentSaid := topSilent.proved
end Go.Proofs.Ytfpnojcbhbkfaaa
