/- A part of a proof that a law's Go function returns true for every input, laid by this session's program mp.py (which drives the kit's print). Conditions: as each theorem states them. -/
import Derived.Test.YtnjmiodnkjabgaaP0
namespace Go.Proofs.Ytnjmiodnkjabgaa.P
open Go.RowKit Go.Proofs.YtnjmiodnkjabgaaW.PrintWords Go.Proofs.YtnjmiodnkjabgaaW.PrintLast Go.Proofs.YtnjmiodnkjabgaaW.PrintMore
attribute [local go_sem] max2_int min2_int max_two min_two max_three min_three max_four min_four   -- for this text's walks alone
set_option linter.unusedVariables false
set_option linter.unusedSimpArgs false

/-! Rounds, wraps and bits, as the printed functions spell them. -/
theorem Ev.succ {α : Type} {g : Nat → Option α} {r : α} (h : Ev (fun k => g (k + 1)) r) : Ev g r := Ev.step (f := fun k => g (k + 1)) (fun _ => rfl) h
theorem Ev.some {α : Type} (r : α) : Ev (fun _ => Option.some r) r := Ev.now r
theorem Ev.ite {α : Type} {c : Prop} [Decidable c] {f g : Nat → Option α} {r : α} (h1 : c → Ev f r) (h2 : ¬ c → Ev g r) : Ev (fun k => if c then f k else g k) r := by
  by_cases hc : c
  · simp only [hc, if_true]; exact h1 hc
  · simp only [hc, if_false]; exact h2 hc
theorem Ev.bind_some {α β : Type} {o : Option α} {f : Nat → α → Option β} {a : α} {r : β} (h : o = Option.some a) (k : Ev (fun n => f n a) r) : Ev (fun n => o.bind (f n)) r := by
  subst h; exact k
/-- What two loops come to is the same. -/
theorem Ev.det {α : Type} {g : Nat → Option α} {r r' : α} (h : Ev g r) (h' : Ev g r') : r = r' := by
  obtain ⟨K, h⟩ := h
  obtain ⟨K', h'⟩ := h'
  have h1 := h (max K K') (Nat.le_max_left _ _)
  have h2 := h' (max K K') (Nat.le_max_right _ _)
  rw [h1] at h2
  exact Option.some.inj h2

theorem wrap_id {n : Int} (h0 : -9223372036854775808 ≤ n) (h1 : n < 9223372036854775808) : wrap64 n = n := by unfold wrap64; omega

theorem rd_nat (xs : List Int) (i : Nat) : rd xs (i : Int) = xs.getD i 0 := by unfold rd; rw [Int.toNat_natCast]
theorem rd_get {xs : List Int} {i : Nat} (h : i < xs.length) : rd xs (i : Int) = xs[i] := by
  rw [rd_nat, List.getD_eq_getElem?_getD, List.getElem?_eq_getElem h]; rfl
theorem rd_mem {xs : List Int} {i : Nat} (h : i < xs.length) : rd xs (i : Int) ∈ xs := by rw [rd_get h]; exact List.getElem_mem h

theorem i64_id {n : Int} (h0 : -9223372036854775808 ≤ n) (h1 : n < 9223372036854775808) : IntKind.i64.wrap n = n := by rw [IntKind.wrap_i64]; omega
theorem bits_i64 (a b : Nat) (ha : a < 2 ^ 63) (hb : b < 2 ^ 63) : Go.bits .and .i64 (a : Int) (b : Int) = ((a &&& b : Nat) : Int) ∧ Go.bits .or .i64 (a : Int) (b : Int) = ((a ||| b : Nat) : Int) := by
  refine bits_nat .i64 63 (by decide) (fun n h0 h1 => i64_id (by omega) ?_) a b ha hb
  have : (2 : Int) ^ 63 = 9223372036854775808 := by decide
  omega
theorem or_i64 {a b : Nat} (ha : a < 2 ^ 63) (hb : b < 2 ^ 63) : Go.bits .or .i64 (a : Int) (b : Int) = ((a ||| b : Nat) : Int) := (bits_i64 a b ha hb).2
theorem and_i64 {a b : Nat} (ha : a < 2 ^ 63) (hb : b < 2 ^ 63) : Go.bits .and .i64 (a : Int) (b : Int) = ((a &&& b : Nat) : Int) := (bits_i64 a b ha hb).1
theorem pow_cast (x : Nat) : ((2 ^ x : Nat) : Int) = (2 : Int) ^ x := by simp
theorem two_pow_lt63 {x : Nat} (h : x ≤ 62) : 2 ^ x < 2 ^ 63 := Nat.pow_lt_pow_right (by omega) (by omega)
theorem shl_i64 {a x : Nat} (hx : x ≤ 62) (h : a * 2 ^ x < 2 ^ 63) : shl .i64 (a : Int) (x : Int) = ((a * 2 ^ x : Nat) : Int) := by
  unfold shl
  rw [Int.toNat_natCast, show min x IntKind.i64.bits = x from Nat.min_eq_left (by show x ≤ 64; omega)]
  have e : ((a : Int) * 2 ^ x) = ((a * 2 ^ x : Nat) : Int) := by rw [Int.natCast_mul, pow_cast]
  rw [e]
  exact i64_id (by omega) (by have : (2 : Nat) ^ 63 = 9223372036854775808 := by decide
                              omega)
theorem shl1_i64 {x : Nat} (hx : x ≤ 62) : shl .i64 1 (x : Int) = ((2 ^ x : Nat) : Int) := by
  have h := shl_i64 (a := 1) hx (by have := two_pow_lt63 hx; omega)
  simpa using h
theorem shr_i64 (a x : Nat) (hx : x ≤ 64) : shr .i64 (a : Int) (x : Int) = ((a / 2 ^ x : Nat) : Int) := by
  unfold shr
  rw [Int.toNat_natCast, show min x IntKind.i64.bits = x from Nat.min_eq_left (by show x ≤ 64; omega)]
  simp
/-- 'a >> x & 1 == 1' -/
theorem bit_i64 {a x : Nat} (ha : a < 2 ^ 63) (hx : x ≤ 64) : Go.bits .and .i64 (shr .i64 (a : Int) (x : Int)) 1 = if a.testBit x then 1 else 0 := by
  rw [shr_i64 a x hx]
  have hlt : a / 2 ^ x < 2 ^ 63 := Nat.lt_of_le_of_lt (Nat.div_le_self _ _) ha
  have h := and_i64 (a := a / 2 ^ x) (b := 1) hlt (by decide)
  rw [show ((1 : Nat) : Int) = 1 from rfl] at h
  rw [h, Nat.and_one_is_mod, Nat.testBit_eq_decide_div_mod_eq]
  rcases Nat.mod_two_eq_zero_or_one (a / 2 ^ x) with h | h <;> simp [h]
theorem bit1_i64 {a x : Nat} (ha : a < 2 ^ 63) (hx : x ≤ 64) : (Go.bits .and .i64 (shr .i64 (a : Int) (x : Int)) 1 = 1) ↔ a.testBit x = true := by
  rw [bit_i64 ha hx]; split <;> simp_all
theorem mn_eq (a b : Int) : mn a b = min a b := by unfold mn; omega
theorem mx_eq (a b : Int) : mx a b = max a b := by unfold mx; omega

/-! One round of a loop over a list: what lies behind and what is to come. -/
theorem mid_lt {l pre xs : List Int} {x : Int} (hl : l = pre ++ x :: xs) : (pre.length : Int) < (l.length : Int) := by subst hl; simp; omega
theorem mid_rd {l pre xs : List Int} {x : Int} (hl : l = pre ++ x :: xs) : rd l (pre.length : Int) = x := by
  subst hl
  rw [rd_get (by simp)]
  simp
theorem mid_next {l pre xs : List Int} {x : Int} (hl : l = pre ++ x :: xs) (hb : l.length < 9223372036854775807) : wrap64 ((pre.length : Int) + 1) = ((pre ++ [x]).length : Int) := by
  subst hl
  rw [wrap_id (by omega) (by simp at hb; omega)]
  simp
theorem mid_end {l pre : List Int} (hl : l = pre ++ []) : ¬ (pre.length : Int) < (l.length : Int) := by subst hl; simp
theorem mid_mv {l pre xs : List Int} {x : Int} (hl : l = pre ++ x :: xs) : l = (pre ++ [x]) ++ xs := by subst hl; simp
/-- 'mod' of the program and of the references: the rest from 0 on. -/
theorem tmod_mod {a n : Int} (hn : 0 < n) (hb : n < 4611686018427387904) : Int.tmod (wrap64 (Int.tmod a n + n)) n = a % n := by
  have h1 : Int.tmod a n < n := Int.tmod_lt_of_pos a hn
  have h2 : -n < Int.tmod a n := by
    have h := Int.tmod_lt_of_pos (-a) hn
    rw [Int.neg_tmod] at h
    omega
  rw [wrap_id (by omega) (by omega), Int.tmod_eq_emod_of_nonneg (by omega), Int.add_emod_right]
  have h3 : Int.tmod a n = a - n * Int.tdiv a n := by have := Int.mul_tdiv_add_tmod a n; omega
  rw [h3, Int.sub_mul_emod_self_left]

end Go.Proofs.Ytnjmiodnkjabgaa.P
