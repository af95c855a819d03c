/- A part of a proof that a law's Go function returns true for every input, laid by this session's program mp.py (which drives the kit's print). Conditions: as each theorem states them. -/
namespace Go.Proofs.Ytnjmiodnkjabgaa.P
/-! Counting bits, as math/bits does it, for numbers of three bytes. Plain Lean. -/
def pop1 (x : Nat) : Nat := (x / 2 &&& 6148914691236517205) + (x &&& 6148914691236517205)
def pop2 (x : Nat) : Nat := (x / 4 &&& 3689348814741910323) + (x &&& 3689348814741910323)
def pop3 (x : Nat) : Nat := (x / 16 + x) &&& 1085102592571150095
def pop4 (x : Nat) : Nat := x + x / 256
def pop5 (x : Nat) : Nat := x + x / 65536
def pop6 (x : Nat) : Nat := x + x / 4294967296
def pop64 (x : Nat) : Nat := pop6 (pop5 (pop4 (pop3 (pop2 (pop1 x))))) &&& 127
/-- how many of the numbers below n are in the set -/
def cntBits (n a : Nat) : Nat := (List.range n).countP a.testBit

theorem lane_and {q b M m : Nat} (hb : b < 256) (hm : m < 256) : (256 * q + b) &&& (256 * M + m) = 256 * (q &&& M) + (b &&& m) := by
  refine Nat.eq_of_testBit_eq fun i => ?_
  have hbm : b &&& m < 256 := Nat.lt_of_le_of_lt Nat.and_le_left hb
  rw [Nat.testBit_and]
  rw [show (256 : Nat) = 2 ^ 8 from rfl] at *
  rw [Nat.testBit_two_pow_mul_add _ hb, Nat.testBit_two_pow_mul_add _ hm, Nat.testBit_two_pow_mul_add _ hbm]
  split <;> rw [Nat.testBit_and]
theorem d1 : ∀ t, t < 2 → ∀ b, b < 256 → (128 * t + b / 2) &&& 85 = (b / 2) &&& 85 := by decide +kernel
theorem d2 : ∀ t, t < 4 → ∀ b, b < 256 → (64 * t + b / 4) &&& 51 = (b / 4) &&& 51 := by decide +kernel
def b1 (b : Nat) : Nat := (b / 2 &&& 85) + (b &&& 85)
def b2 (b : Nat) : Nat := (b / 4 &&& 51) + (b &&& 51)
theorem b1_lt : ∀ b, b < 256 → b1 b < 256 := by decide +kernel
theorem b12 : ∀ b, b < 256 → b2 (b1 b) % 16 ≤ 4 ∧ b2 (b1 b) / 16 ≤ 4 ∧ b2 (b1 b) % 16 + b2 (b1 b) / 16 = cntBits 8 b := by decide +kernel
theorem step1 {q b M : Nat} (hb : b < 256) : ((256 * q + b) / 2 &&& (256 * M + 85)) + ((256 * q + b) &&& (256 * M + 85)) = 256 * ((q / 2 &&& M) + (q &&& M)) + b1 b := by
  have e : (256 * q + b) / 2 = 256 * (q / 2) + (128 * (q % 2) + b / 2) := by omega
  rw [e, lane_and (by omega) (by omega), lane_and hb (by omega), d1 _ (by omega) _ hb]
  unfold b1; omega
theorem step2 {q b M : Nat} (hb : b < 256) : ((256 * q + b) / 4 &&& (256 * M + 51)) + ((256 * q + b) &&& (256 * M + 51)) = 256 * ((q / 4 &&& M) + (q &&& M)) + b2 b := by
  have e : (256 * q + b) / 4 = 256 * (q / 4) + (64 * (q % 4) + b / 4) := by omega
  rw [e, lane_and (by omega) (by omega), lane_and hb (by omega), d2 _ (by omega) _ hb]
  unfold b2; omega
theorem low1 {b M : Nat} (hb : b < 256) : (b / 2 &&& (256 * M + 85)) + (b &&& (256 * M + 85)) = b1 b := by
  have := step1 (q := 0) (M := M) hb
  simpa using this
theorem low2 {b M : Nat} (hb : b < 256) : (b / 4 &&& (256 * M + 51)) + (b &&& (256 * M + 51)) = b2 b := by
  have := step2 (q := 0) (M := M) hb
  simpa using this
theorem pop1_three {x y z : Nat} (hx : x < 256) (hy : y < 256) (hz : z < 256) : pop1 (256 * (256 * z + y) + x) = 256 * (256 * b1 z + b1 y) + b1 x := by
  unfold pop1
  have h1 := step1 (q := 256 * z + y) (M := 24019198012642645) hx
  have h2 := step1 (q := z) (M := 93824992236885) hy
  have h3 := low1 (M := 366503875925) hz
  simp only [Nat.reduceMul, Nat.reduceAdd] at h1 h2 h3
  rw [h1, h2, h3]
theorem pop2_three {x y z : Nat} (hx : x < 256) (hy : y < 256) (hz : z < 256) : pop2 (256 * (256 * z + y) + x) = 256 * (256 * b2 z + b2 y) + b2 x := by
  unfold pop2
  have h1 := step2 (q := 256 * z + y) (M := 14411518807585587) hx
  have h2 := step2 (q := z) (M := 56294995342131) hy
  have h3 := low2 (M := 219902325555) hz
  simp only [Nat.reduceMul, Nat.reduceAdd] at h1 h2 h3
  rw [h1, h2, h3]
theorem and15 (x : Nat) : x &&& 15 = x % 16 := by
  have := Nat.and_two_pow_sub_one_eq_mod x 4
  simpa using this
theorem pop3_three {x y z : Nat} (hx : x % 16 ≤ 4 ∧ x / 16 ≤ 4) (hy : y % 16 ≤ 4 ∧ y / 16 ≤ 4) (hz : z % 16 ≤ 4 ∧ z / 16 ≤ 4) :
    pop3 (256 * (256 * z + y) + x) = 256 * (256 * (z % 16 + z / 16) + (y % 16 + y / 16)) + (x % 16 + x / 16) := by
  unfold pop3
  have e : (256 * (256 * z + y) + x) / 16 + (256 * (256 * z + y) + x) = 256 * (256 * (z + z / 16) + (y + y / 16 + 16 * (z % 16))) + (x + x / 16 + 16 * (y % 16)) := by omega
  have m : (1085102592571150095 : Nat) = 256 * (256 * (256 * 64677154575 + 15) + 15) + 15 := by decide
  rw [e, m, lane_and (by omega) (by omega), lane_and (by omega) (by omega)]
  have m2 : z + z / 16 &&& (256 * 64677154575 + 15) = (z % 16 + z / 16) := by
    have := lane_and (q := 0) (b := z + z / 16) (M := 64677154575) (m := 15) (by omega) (by omega)
    simp only [Nat.mul_zero, Nat.zero_add, Nat.zero_and] at this
    rw [this, and15]; omega
  rw [m2, and15, and15]
  clear e m m2
  have h1 : (x + x / 16 + 16 * (y % 16)) % 16 = x % 16 + x / 16 := by omega
  have h2 : (y + y / 16 + 16 * (z % 16)) % 16 = y % 16 + y / 16 := by omega
  rw [h1, h2]
theorem pop64_three {x y z : Nat} (hx : x < 256) (hy : y < 256) (hz : z < 256) : pop64 (256 * (256 * z + y) + x) = cntBits 8 x + cntBits 8 y + cntBits 8 z := by
  unfold pop64
  have a := b12 x hx; have b := b12 y hy; have c := b12 z hz
  rw [pop1_three hx hy hz, pop2_three (b1_lt x hx) (b1_lt y hy) (b1_lt z hz), pop3_three ⟨a.1, a.2.1⟩ ⟨b.1, b.2.1⟩ ⟨c.1, c.2.1⟩, a.2.2, b.2.2, c.2.2]
  have a8 : cntBits 8 x ≤ 8 := by have := a.2.2; omega
  have b8 : cntBits 8 y ≤ 8 := by have := b.2.2; omega
  have c8 : cntBits 8 z ≤ 8 := by have := c.2.2; omega
  have m : ∀ t : Nat, t &&& 127 = t % 128 := fun t => by
    have := Nat.and_two_pow_sub_one_eq_mod t 7
    simpa using this
  rw [m]
  unfold pop6 pop5 pop4
  generalize cntBits 8 x = p at *
  generalize cntBits 8 y = q at *
  generalize cntBits 8 z = r at *
  clear a b c m hx hy hz
  have e1 : (256 * (256 * r + q) + p) / 256 = 256 * r + q := by omega
  have e2 : (256 * (256 * r + q) + p + (256 * r + q)) / 65536 = r := by omega
  have e3 : (256 * (256 * r + q) + p + (256 * r + q) + r) / 4294967296 = 0 := by omega
  rw [e1, e2, e3]
  omega
theorem cntBits_lane (n b q : Nat) (hb : b < 256) : cntBits (8 + n) (256 * q + b) = cntBits 8 b + cntBits n q := by
  unfold cntBits
  rw [List.range_add, List.countP_append, List.countP_map]
  have e1 : (List.range 8).countP (256 * q + b).testBit = (List.range 8).countP b.testBit := List.countP_congr (fun i hi => by
    rw [show (256 : Nat) = 2 ^ 8 from rfl] at *
    rw [Nat.testBit_two_pow_mul_add _ hb, if_pos (List.mem_range.1 hi)])
  have e2 : (List.range n).countP ((256 * q + b).testBit ∘ fun x => 8 + x) = (List.range n).countP q.testBit := List.countP_congr (fun i _ => by
    rw [show (256 : Nat) = 2 ^ 8 from rfl] at *
    show (2 ^ 8 * q + b).testBit (8 + i) = true ↔ _
    rw [Nat.testBit_two_pow_mul_add _ hb, if_neg (by omega), show 8 + i - 8 = i by omega])
  rw [e1, e2]
theorem cntBits_more {n m a : Nat} (h : a < 2 ^ n) (hm : n ≤ m) : cntBits m a = cntBits n a := by
  obtain ⟨d, rfl⟩ : ∃ d, m = n + d := ⟨m - n, by omega⟩
  unfold cntBits
  rw [List.range_add, List.countP_append, List.countP_map]
  have : (List.range d).countP (a.testBit ∘ fun x => n + x) = 0 := by
    rw [List.countP_eq_zero]
    intro i _
    have : a < 2 ^ (n + i) := Nat.lt_of_lt_of_le h (Nat.pow_le_pow_right (by omega) (by omega))
    simp [Nat.testBit_lt_two_pow this]
  omega
/-- for a set of at most 24 numbers math/bits counts its elements -/
theorem pop64_cnt {n a : Nat} (hn : n ≤ 24) (h : a < 2 ^ n) : pop64 a = cntBits n a := by
  have h24 : a < 2 ^ 24 := Nat.lt_of_lt_of_le h (Nat.pow_le_pow_right (by omega) hn)
  rw [← cntBits_more h hn]
  have e : a = 256 * (256 * (a / 65536) + a / 256 % 256) + a % 256 := by omega
  have h3 : a / 65536 < 256 := by have : (2 : Nat) ^ 24 = 16777216 := by decide
                                  omega
  rw [e, pop64_three (by omega) (by omega) h3, show 24 = 8 + (8 + 8) from rfl, cntBits_lane _ _ _ (by omega), cntBits_lane _ _ _ (by omega)]
  omega
end Go.Proofs.Ytnjmiodnkjabgaa.P

