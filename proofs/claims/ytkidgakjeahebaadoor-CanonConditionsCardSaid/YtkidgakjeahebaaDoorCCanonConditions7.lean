/- A part of a proof that a law's Go function returns true for every input, laid by this session's program mp.py (which drives the kit's print). Conditions: as each theorem states them. -/
import Derived.RowKit
import Derived.Tactics
import Derived.Test.YtkidgakjeahebaaDoorCCanonConditions1
import Derived.Test.YtkidgakjeahebaaDoorCCanonConditions2
import Derived.Test.YtkidgakjeahebaaDoorCCanonConditions5
import Derived.Test.YtkidgakjeahebaaDoorCCanonConditions6
namespace Go.Proofs.YtkidgakjeahebaaDoor.P
open Go.RowKit Go.Proofs.YtkidgakjeahebaaDoorW.PrintWords Go.Proofs.YtkidgakjeahebaaDoorW.PrintLast Go.Proofs.YtkidgakjeahebaaDoorW.PrintMore
attribute [local go_sem] max2_int min2_int max_two min_two max_three min_three max_four min_four   -- for this text's walks alone
set_option linter.unusedVariables false
set_option linter.unusedSimpArgs false

/-! (gathered by mk_cond.py: what g_RefSecond and q_Build say of the program's own functions) -/
def divsN (n : Nat) : List Nat := (List.range' 2 (n - 1)).filter fun s => decide (n % s = 0)
def allSub : List Nat → (List Nat → Bool) → Bool
  | [], P => P []
  | x :: xs, P => allSub xs P && allSub xs (fun l => P (x :: l))
theorem allSub_filter (q : Nat → Bool) : ∀ (l : List Nat) (P : List Nat → Bool), allSub l P = true → P (l.filter q) = true
  | [], P, h => h
  | x :: xs, P, h => by
    unfold allSub at h
    rw [Bool.and_eq_true] at h
    rw [List.filter_cons]
    split
    · exact allSub_filter q xs (fun l => P (x :: l)) h.2
    · exact allSub_filter q xs P h.1
theorem rootsN_sub (n a : Nat) : rootsN n a = (divsN n).filter (isRt n a) := by
  unfold rootsN divsN
  rw [List.filter_filter]
  refine List.filter_congr (fun s _ => ?_)
  rw [Bool.and_comm]
noncomputable def secB (n a : Nat) : Bool := okP (rootsN n a) 1 && loopH (rootsN n a) (rootsN n a) 1
theorem sec_eq {n a : Nat} (_ : 2 ≤ n) (_ : n ≤ 24) : (okP (rootsN n a) 1 && loopH (rootsN n a) (rootsN n a) 1) = secB n a := rfl
/-! the second condition, and the partner that the conditions give, in both programs -/
def freeG : Nat → Nat → Nat → Nat
  | 0, m, _ => m
  | f + 1, m, p => if m % p = 0 then freeG f (m / p) p else m
def freeN (n p : Nat) : Nat := freeG 10 n p
def stepN (n s : Nat) : Nat := s / prN s * freeN n (prN s)
theorem free_table : (List.range' 2 23).all (fun n => (List.range' 2 23).all (fun s => decide (n % s ≠ 0) || decide (prN s = 0) || (decide (2 ≤ prN s) && decide (prN s ≤ 24) && decide (s % prN s = 0) && decide (freeN n (prN s) % prN s ≠ 0) && decide (freeN n (prN s) ≤ 24) && decide (canon_free.f 60 (n : Int) (prN s : Int) = some (freeN n (prN s) : Int))))) = true := by kernel_rfl
theorem free_facts {n s : Nat} (h2 : 2 ≤ n) (hn : n ≤ 24) (hs : 2 ≤ s) (hs24 : s ≤ 24) (hd : n % s = 0) (hp : prN s ≠ 0) :
    2 ≤ prN s ∧ prN s ≤ 24 ∧ s % prN s = 0 ∧ freeN n (prN s) % prN s ≠ 0 ∧ freeN n (prN s) ≤ 24 ∧ canon_free.f 60 (n : Int) (prN s : Int) = some (freeN n (prN s) : Int) := by
  have h := List.all_eq_true.1 (List.all_eq_true.1 free_table n (List.mem_range'_1.2 ⟨h2, by omega⟩)) s (List.mem_range'_1.2 ⟨hs, by omega⟩)
  simp only [Bool.or_eq_true, Bool.and_eq_true, decide_eq_true_eq] at h
  rcases h with (h | h) | h
  · exact absurd hd h
  · exact absurd h hp
  · exact ⟨h.1.1.1.1.1, h.1.1.1.1.2, h.1.1.1.2, h.1.1.2, h.1.2, h.2⟩
def orMv (n b step : Nat) : Nat → Nat → Nat → Nat
  | 0, _, acc => acc
  | m + 1, i, acc => orMv n b step m (i + 1) (acc ||| moveN n b (i * step % n))
theorem orMv_lt (n b step : Nat) : ∀ (m i acc : Nat), acc < 2 ^ n → orMv n b step m i acc < 2 ^ n
  | 0, _, _, h => h
  | m + 1, i, acc, h => orMv_lt n b step m (i + 1) _ (Nat.or_lt_two_pow h (moveN_lt n b _))
def doesB (n a s : Nat) : Bool := decide (n % s = 0) && decide (prN s ≠ 0) && !isRt n a s
def buildN (n a : Nat) : Nat → Nat → Nat → Nat
  | 0, _, b => b
  | m + 1, s, b => if doesB n a s = true then buildN n a m (s + 1) (orMv n b (stepN n s) (prN s) 0 0) else buildN n a m (s + 1) b
theorem mem_numsI {l : List Nat} {s : Nat} : (s : Int) ∈ numsI l ↔ s ∈ l := by
  unfold numsI
  rw [List.mem_map]
  constructor
  · rintro ⟨x, hx, e⟩
    have : x = s := Int.ofNat_inj.1 e
    rw [← this]; exact hx
  · intro h
    exact ⟨s, h, rfl⟩
theorem mul_w {a b : Nat} (ha : a ≤ 1000) (hb : b ≤ 1000) : wrap64 ((a : Int) * (b : Int)) = ((a * b : Nat) : Int) := by
  have : a * b ≤ 1000 * 1000 := Nat.mul_le_mul ha hb
  rw [wrap_id (by have : (a : Int) * (b : Int) = ((a * b : Nat) : Int) := by push_cast; rfl
                  omega) (by have : (a : Int) * (b : Int) = ((a * b : Nat) : Int) := by push_cast; rfl
                             omega)]
  push_cast; rfl
theorem nat_w {m : Nat} (h : m ≤ 24) : wrap64 (m : Int) = (m : Int) := wrap_id (by omega) (by omega)
theorem tmod_n (a b : Nat) : Int.tmod (a : Int) (b : Int) = ((a % b : Nat) : Int) := by rw [Int.tmod_eq_emod_of_nonneg (by omega)]; simp
theorem tdiv_n (a b : Nat) : Int.tdiv (a : Int) (b : Int) = ((a / b : Nat) : Int) := by rw [Int.tdiv_eq_ediv_of_nonneg (by omega)]; simp
theorem or_w {n x y : Nat} (hn : n ≤ 24) (hx : x < 2 ^ n) (hy : y < 2 ^ n) : Go.bits .or .i64 (x : Int) (y : Int) = ((x ||| y : Nat) : Int) := by
  have hp := pow24 hn
  exact (bits_i64 x y (Nat.lt_of_lt_of_le hx (by omega)) (Nat.lt_of_lt_of_le hy (by omega))).2
theorem build_l1 {n b s p step : Nat} (h2 : 2 ≤ n) (hn : n ≤ 24) (hb : b < 2 ^ n) (hp : p ≤ 24) (hst : step ≤ 1000) (rs : List Int) (v : Int × Int) : ∀ (m i acc : Nat), i + m = p → acc < 2 ^ n →
    Ev (fun k => canon_Build.l0 k (n : Int) (n : Int) rs (orMv n b step m i acc : Int) (wrap64 ((s : Int) + 1))) v →
    Ev (fun k => canon_Build.l1 k (n : Int) (n : Int) rs (b : Int) (s : Int) (step : Int) (acc : Int) (p : Int) (i : Int)) v := by
  intro m
  induction m with
  | zero =>
    intro i acc hi ha h
    refine Ev.succ ?_
    simp only [canon_Build.l1, if_neg (show ¬ (i : Int) < (p : Int) by omega)]
    exact h
  | succ m ih =>
    intro i acc hi ha h
    refine Ev.succ ?_
    simp only [canon_Build.l1, if_pos (show (i : Int) < (p : Int) by omega), if_neg (show ¬ (n : Int) = 0 by omega), mul_w (show i ≤ 1000 by omega) hst, tmod_n, next_w (show i ≤ 1000 by omega)]
    refine Ev.bind_some (move_f hn (Nat.le_of_lt (Nat.mod_lt _ (by omega))) hb) ?_
    rw [or_w hn ha (moveN_lt n b _)]
    exact ih (i + 1) _ (by omega) (Nat.or_lt_two_pow ha (moveN_lt n b _)) h
theorem build_l0 {n a : Nat} (h2 : 2 ≤ n) (hn : n ≤ 24) (ha : a < 2 ^ n) : ∀ (m s b : Nat), 2 ≤ s → s + m = n + 1 → b < 2 ^ n →
    Ev (fun k => canon_Build.l0 k (n : Int) (n : Int) (numsI (rootsN n a)) (b : Int) (s : Int)) ((buildN n a m s b : Int), 0) := by
  have hlen : (numsI (rootsN n a)).length < 1000 := by have := rootsN_len n a hn; unfold numsI; rw [List.length_map]; exact this
  intro m
  induction m with
  | zero =>
    intro s b hs hm hb
    refine Ev.succ ?_
    simp only [canon_Build.l0, if_neg (show ¬ (s : Int) ≤ (n : Int) by omega)]
    exact Ev.some _
  | succ m ih =>
    intro s b hs hm hb
    have hw := next_w (d := s) (by omega)
    have skip : doesB n a s = false → Ev (fun k => canon_Build.j2 k (n : Int) (n : Int) (numsI (rootsN n a)) (b : Int) (s : Int) true) ((buildN n a (m + 1) s b : Int), 0) := fun hf => by
      refine Ev.succ ?_
      simp only [canon_Build.j2, if_true, hw]
      unfold buildN
      rw [if_neg (by rw [hf]; decide)]
      exact ih (s + 1) b (by omega) (by omega) hb
    refine Ev.succ ?_
    simp only [canon_Build.l0, if_pos (show (s : Int) ≤ (n : Int) by omega), if_neg (show ¬ (s : Int) = 0 by omega), tmod_n]
    by_cases hd : n % s = 0
    · simp only [hd, Int.natCast_zero, if_true]
      refine Ev.bind (prime_ev hs (by omega)) ?_
      by_cases hp : prN s = 0
      · simp only [if_pos (show ((prN s : Nat) : Int) = 0 by omega)]
        exact skip (by unfold doesB; rw [decide_eq_false (show ¬ prN s ≠ 0 by omega)]; simp)
      · simp only [if_neg (show ¬ ((prN s : Nat) : Int) = 0 by omega)]
        refine Ev.bind (Contains_ev (numsI (rootsN n a)) (s : Int) (by omega)) ?_
        by_cases hr : isRt n a s = true
        · rw [decide_eq_true (mem_numsI.2 (rootsN_mem.2 ⟨hs, by omega, hd, hr⟩))]
          exact skip (by unfold doesB; rw [hr]; simp)
        · have hr' : isRt n a s = false := by simpa using hr
          rw [decide_eq_false (fun h => hr (rootsN_mem.1 (mem_numsI.1 h)).2.2.2)]
          have hdo : doesB n a s = true := by unfold doesB; rw [decide_eq_true hd, decide_eq_true hp, hr']; rfl
          obtain ⟨f1, f2, f3, f4, f5, f6⟩ := free_facts h2 hn hs (by omega) hd hp
          have hdv : s / prN s ≤ 24 := Nat.le_trans (Nat.div_le_self _ _) (by omega)
          have hst : stepN n s ≤ 1000 := by
            have : s / prN s * freeN n (prN s) ≤ 24 * 24 := Nat.mul_le_mul hdv f5
            unfold stepN; omega
          refine Ev.succ ?_
          simp only [canon_Build.j2, Bool.false_eq_true, if_false]
          refine Ev.bind (prime_ev hs (by omega)) ?_
          simp only [if_neg (show ¬ ((prN s : Nat) : Int) = 0 by omega)]
          refine Ev.bind (Ev.of (canon_free.mono (n : Int) (prN s : Int)) f6) ?_
          rw [tdiv_n, nat_w hdv, mul_w (by omega) (by omega)]
          refine build_l1 (step := stepN n s) h2 hn hb f2 hst _ _ (prN s) 0 0 (by omega) (Nat.two_pow_pos n) ?_
          rw [hw]
          unfold buildN
          rw [if_pos hdo]
          exact ih (s + 1) _ (by omega) (by omega) (orMv_lt _ _ _ _ _ _ (Nat.two_pow_pos n))
    · simp only [if_neg (show ¬ ((n % s : Nat) : Int) = 0 by omega)]
      exact skip (by unfold doesB; rw [decide_eq_false hd]; simp)

end Go.Proofs.YtkidgakjeahebaaDoor.P
namespace Go.Proofs.YtkidgakjeahebaaDoor.P
/-! Two rhythms fill the circle just where they have no difference in common and as many beats as there are. Plain Lean. -/
def hasD (n a d : Nat) : Prop := ∃ x, x < n ∧ ∃ y, y < n ∧ a.testBit x = true ∧ a.testBit y = true ∧ (x + (n - y)) % n = d
theorem back_if {n x y : Nat} (hx : x < n) (hy : y < n) : (x + (n - y)) % n = if y ≤ x then x - y else x + n - y := by
  by_cases h : y ≤ x
  · rw [if_pos h, show x + (n - y) = (x - y) + n by omega, Nat.add_mod_right, Nat.mod_eq_of_lt (by omega)]
  · rw [if_neg h, Nat.mod_eq_of_lt (by omega)]; omega
theorem plus_if {n x y : Nat} (hx : x < n) (hy : y < n) : (x + y) % n = if x + y < n then x + y else x + y - n := by
  by_cases h : x + y < n
  · rw [if_pos h, Nat.mod_eq_of_lt h]
  · rw [if_neg h, Nat.mod_eq_sub_mod (by omega), Nat.mod_eq_of_lt (by omega)]
theorem cnt_le_one {p : Nat → Bool} : ∀ n, (∀ y, y < n → ∀ z, z < n → p y = true → p z = true → y = z) → cnt n p ≤ 1
  | 0, _ => by rw [cnt_zero]; omega
  | n + 1, h => by
    have ih := cnt_le_one n (fun y hy z hz => h y (by omega) z (by omega))
    rw [cnt_succ]
    cases hp : p n with
    | false => simp; exact ih
    | true =>
      have : cnt n p = 0 := by
        rcases Nat.eq_zero_or_pos (cnt n p) with e | e
        · exact e
        · obtain ⟨y, hy, h1, _⟩ := cnt_first n e
          have := h y (by omega) n (by omega) h1 hp
          omega
      simp; omega
theorem sumTo_full {f : Nat → Nat} : ∀ m, (∀ i, i < m → f i ≤ 1) → sumTo f m = m → ∀ i, i < m → f i = 1
  | 0, _, _, i, hi => by omega
  | m + 1, h, hs, i, hi => by
    have h1 := sumTo_le (c := 1) m (fun i hi => h i (by omega)); have h2 := h m (by omega)
    simp only [sumTo] at hs
    rcases Nat.lt_or_ge i m with c | c
    · exact sumTo_full m (fun i hi => h i (by omega)) (by omega) i c
    · obtain rfl : i = m := by omega
      omega
theorem move_at {n a v w : Nat} (ha : a < 2 ^ n) (hv : v < n) (hw : w < n) : (moveN n a v).testBit w = a.testBit (if v ≤ w then w - v else w + n - v) := by
  rw [testBit_moveN ha hv hw, back_if hw hv]
theorem tiled_diff {n a b : Nat} (ha : a < 2 ^ n) : Tiled n a b ↔ (∀ d, 1 ≤ d → d < n → ¬ (hasD n a d ∧ hasD n b d)) ∧ chSize n a * chSize n b = n := by
  constructor
  · intro ht
    refine ⟨?_, tiled_size ha ht⟩
    rintro d hd hdn ⟨⟨x, hx, y, hy, ax, ay, e1⟩, ⟨u, hu, v, hv, bu, bv, e2⟩⟩
    have hw : (x + v) % n < n := Nat.mod_lt _ (by omega)
    have hu' := (tiled_fills.1 ht).2 ((x + v) % n) hw u hu v hv bu bv
    rw [back_if hx hy] at e1
    rw [back_if hu hv] at e2
    have m1 : (moveN n a v).testBit ((x + v) % n) = true := by
      rw [move_at ha hv hw]
      rw [plus_if hx hv] at hw ⊢
      rw [← ax]; congr 1
      split <;> split <;> omega
    have m2 : (moveN n a u).testBit ((x + v) % n) = true := by
      rw [move_at ha hu hw]
      rw [plus_if hx hv] at hw ⊢
      rw [← ay]; congr 1
      split at e1 <;> split at e2 <;> split <;> split <;> omega
    have := hu' m2 m1
    subst this
    rw [if_pos (Nat.le_refl _)] at e2
    omega
  · rintro ⟨h, hs⟩
    rw [← cv_sum ha] at hs
    refine sumTo_full n (fun x hx => ?_) hs
    unfold cv
    refine cnt_le_one n (fun u hu v hv hp hq => ?_)
    simp only [Bool.and_eq_true] at hp hq
    obtain ⟨bu, mu⟩ := hp
    obtain ⟨bv, mv⟩ := hq
    rw [testBit_moveN ha hu hx] at mu
    rw [testBit_moveN ha hv hx] at mv
    have l1 : (x + (n - u)) % n < n := Nat.mod_lt _ (by omega)
    have l2 : (x + (n - v)) % n < n := Nat.mod_lt _ (by omega)
    refine Classical.byContradiction (fun hne => ?_)
    have e : ((x + (n - v)) % n + (n - (x + (n - u)) % n)) % n = (u + (n - v)) % n := by
      rw [back_if l2 l1, back_if hu hv]
      rw [back_if hx hu, back_if hx hv] at *
      split <;> split <;> split <;> split <;> omega
    refine h ((u + (n - v)) % n) ?_ (Nat.mod_lt _ (by omega)) ⟨⟨_, l2, _, l1, mv, mu, e⟩, ⟨u, hu, v, hv, bu, bv, rfl⟩⟩
    rw [back_if hu hv]
    split <;> omega
end Go.Proofs.YtkidgakjeahebaaDoor.P
namespace Go.Proofs.YtkidgakjeahebaaDoor.P
/-! Periods of a rhythm. Plain Lean. -/
def IsPer (n a d : Nat) : Prop := 1 ≤ d ∧ d ≤ n ∧ n % d = 0 ∧ moveN n a d = a
instance (n a d : Nat) : Decidable (IsPer n a d) := by unfold IsPer; infer_instance
theorem moveN_all {n a : Nat} (ha : a < 2 ^ n) : moveN n a n = a := by
  unfold moveN
  rw [Nat.sub_self, Nat.pow_zero, Nat.div_one]
  refine bits_ext (n := n) (Nat.lt_of_le_of_lt Nat.and_le_right (by have := Nat.two_pow_pos n; omega)) ha (fun i hi => ?_)
  rw [Nat.testBit_and, Nat.testBit_or, Nat.testBit_two_pow_sub_one, ← Nat.shiftLeft_eq, Nat.testBit_shiftLeft]
  simp [hi, Nat.not_le.2 hi]
theorem isPer_all {n a : Nat} (hn : 1 ≤ n) (ha : a < 2 ^ n) : IsPer n a n := ⟨hn, Nat.le_refl _, Nat.mod_self n, moveN_all ha⟩
theorem least_per {n a : Nat} (hn : 1 ≤ n) (ha : a < 2 ^ n) : ∃ p, IsPer n a p ∧ ∀ d, d < p → ¬ IsPer n a d := by
  have go : ∀ m, (∃ p, p ≤ m ∧ IsPer n a p) → ∃ p, IsPer n a p ∧ ∀ d, d < p → ¬ IsPer n a d := by
    intro m
    induction m with
    | zero =>
      rintro ⟨p, hp, h⟩
      exact ⟨p, h, fun d hd => by omega⟩
    | succ m ih =>
      rintro ⟨p, hp, h⟩
      by_cases hq : ∃ q, q ≤ m ∧ IsPer n a q
      · exact ih hq
      · exact ⟨p, h, fun d hd hd2 => hq ⟨d, by omega, hd2⟩⟩
  exact go n ⟨n, Nat.le_refl _, isPer_all hn ha⟩
theorem per_bit {n a d : Nat} (ha : a < 2 ^ n) (h : IsPer n a d) : ∀ (q x : Nat), x + q * d < n → a.testBit (x + q * d) = a.testBit x := by
  obtain ⟨h1, h2, h3, h4⟩ := h
  intro q
  induction q with
  | zero => intro x _; rw [Nat.zero_mul, Nat.add_zero]
  | succ q ih =>
    intro x hx
    rw [Nat.succ_mul] at hx
    rw [← ih x (by omega)]
    rcases Nat.lt_or_ge d n with c | c
    · have h5 := testBit_moveN (i := x + (q + 1) * d) ha c (by rw [Nat.succ_mul]; omega)
      rw [h4] at h5
      rw [h5]
      congr 1
      rw [Nat.succ_mul, show x + (q * d + d) + (n - d) = x + q * d + n by omega, Nat.add_mod_right, Nat.mod_eq_of_lt (by omega)]
    · omega
/-- the beats of one period, gathered -/
def foldTo (a d : Nat) : Nat → Nat
  | 0 => 0
  | x + 1 => if a.testBit x then foldTo a d x ||| 2 ^ (x % d) else foldTo a d x
theorem foldTo_bit {n a d : Nat} (ha : a < 2 ^ n) (h : IsPer n a d) (i : Nat) : ∀ x, x ≤ n → (foldTo a d x).testBit i = (decide (i < d) && (decide (i < x) && a.testBit i)) := by
  have h1 := h.1
  intro x
  induction x with
  | zero => intro _; simp [foldTo]
  | succ x ih =>
    intro hx
    have hi := ih (by omega)
    have hp := per_bit ha h (x / d) (x % d) (by rw [Nat.mul_comm, Nat.mod_add_div]; omega)
    rw [Nat.mul_comm, Nat.mod_add_div] at hp
    have hmd := Nat.mod_lt x (show d > 0 by omega)
    have hml := Nat.mod_le x d
    simp only [foldTo]
    cases hb : a.testBit x with
    | true =>
      rw [if_pos rfl, Nat.testBit_or, hi, Nat.testBit_two_pow]
      rw [hb] at hp
      by_cases e : x % d = i
      · subst e
        rw [← hp]
        simp only [decide_true, Bool.or_true, Bool.and_true]
        rw [decide_eq_true hmd, decide_eq_true (show x % d < x + 1 by omega)]
        rfl
      · rw [decide_eq_false e, Bool.or_false]
        by_cases hid : i < d
        · rw [decide_eq_true hid, Bool.true_and, Bool.true_and]
          have : decide (i < x) = decide (i < x + 1) := by
            rw [decide_eq_decide]
            have : i ≠ x := fun h => e (by rw [← h, Nat.mod_eq_of_lt hid])
            omega
          rw [this]
        · rw [decide_eq_false hid, Bool.false_and, Bool.false_and]
    | false =>
      rw [if_neg (by simp), hi]
      by_cases e : i = x
      · subst e; rw [hb]; simp
      · have : decide (i < x) = decide (i < x + 1) := by rw [decide_eq_decide]; omega
        rw [this]
theorem foldTo_all {n a d : Nat} (ha : a < 2 ^ n) (h : IsPer n a d) : foldTo a d n = a &&& (2 ^ d - 1) := by
  refine Nat.eq_of_testBit_eq (fun i => ?_)
  rw [foldTo_bit ha h i n (Nat.le_refl _), Nat.testBit_and, Nat.testBit_two_pow_sub_one]
  by_cases hi : i < d
  · have := h.2.1
    rw [decide_eq_true hi, decide_eq_true (show i < n by omega)]; simp
  · rw [decide_eq_false hi]; simp
theorem foldTo_lt {n a d : Nat} (hd : 1 ≤ d) (hdn : d ≤ n) : ∀ x, foldTo a d x < 2 ^ n
  | 0 => Nat.two_pow_pos n
  | x + 1 => by
    have h := foldTo_lt (n := n) (a := a) hd hdn x
    simp only [foldTo]
    split
    · exact Nat.or_lt_two_pow h (Nat.pow_lt_pow_right (by omega) (Nat.lt_of_lt_of_le (Nat.mod_lt x (by omega)) hdn))
    · exact h
end Go.Proofs.YtkidgakjeahebaaDoor.P
namespace Go.Proofs.YtkidgakjeahebaaDoor.P
/-! Of two rhythms that fill a circle of at most 24 beats one has a period: one of them has at most four beats; all such are looked through. Plain Lean. -/
/-- the search for partners, over the beats of a, with a test at each end -/
def visOk (n a full : Nat) (al : List Nat) (ok : Nat → Bool) : Nat → Nat → Nat → Bool
  | 0, _, _ => true
  | d + 1, b, F => bif Nat.beq F full then ok b else
      let f := freeAt n F
      al.all fun x =>
        let k := (f + (n - x)) % n
        let m := moveN n a k
        bif Nat.beq (m &&& F) 0 then visOk n a full al ok d (b ||| 2 ^ k) (F ||| m) else true
theorem visOk_spec {n a : Nat} {al : List Nat} {ok : Nat → Bool} (hal : ∀ x, x < n → a.testBit x = true → x ∈ al) : ∀ (d b F : Nat), visOk n a (2 ^ n - 1) al ok d b F = true → ∀ c ∈ vis n a (stA n a) d b F, ok c = true
  | 0, b, F, _, c, hc => by simp [vis] at hc
  | d + 1, b, F, h, c, hc => by
    simp only [vis] at hc
    simp only [visOk] at h
    by_cases e : F = 2 ^ n - 1
    · rw [if_pos e, List.mem_singleton] at hc
      rw [show Nat.beq F (2 ^ n - 1) = true from Nat.beq_eq.mpr e, cond_true] at h
      rw [hc]; exact h
    · rw [if_neg e, List.mem_flatMap] at hc
      rw [show Nat.beq F (2 ^ n - 1) = false from by rw [Bool.eq_false_iff]; exact fun h => e (Nat.eq_of_beq_eq_true h), cond_false, List.all_eq_true] at h
      obtain ⟨x, hx, hc⟩ := hc
      rw [List.mem_range] at hx
      unfold stA at hc
      cases hb : a.testBit x with
      | false => rw [hb] at hc; simp at hc
      | true =>
        rw [hb] at hc
        simp only [if_true] at hc
        have h2 := h x (hal x hx hb)
        by_cases hm : moveN n a ((freeAt n F + (n - x)) % n) &&& F = 0
        · rw [if_pos hm] at hc
          rw [show Nat.beq (moveN n a ((freeAt n F + (n - x)) % n) &&& F) 0 = true from Nat.beq_eq.mpr hm, cond_true] at h2
          exact visOk_spec hal d _ _ h2 c hc
        · rw [if_neg hm] at hc; cases hc
/-- has a period below the circle -/
def perB (n a : Nat) : Bool := (List.range n).any fun d => decide (1 ≤ d) && (decide (n % d = 0) && Nat.beq (moveN n a d) a)
theorem perB_iff {n a : Nat} : perB n a = true ↔ ∃ d, d < n ∧ IsPer n a d := by
  unfold perB IsPer
  rw [List.any_eq_true]
  constructor
  · rintro ⟨d, hd, h⟩
    rw [List.mem_range] at hd
    simp only [Bool.and_eq_true, decide_eq_true_iff] at h
    exact ⟨d, hd, h.1, by omega, h.2.1, Nat.eq_of_beq_eq_true h.2.2⟩
  · rintro ⟨d, hd, h1, _, h2, h3⟩
    refine ⟨d, List.mem_range.2 hd, ?_⟩
    simp only [Bool.and_eq_true, decide_eq_true_iff]
    exact ⟨h1, h2, Nat.beq_eq.mpr h3⟩
def setOf (al : List Nat) : Nat := al.foldl (fun s x => s ||| 2 ^ x) 0
def chkA (n : Nat) (al : List Nat) : Bool :=
  let a := setOf al
  perB n a || visOk n a (2 ^ n - 1) al (perB n) (n + 1) 1 a
/-- all rising lists of k numbers from lo to n - 1 behind some -/
def chkR (n : Nat) : Nat → Nat → List Nat → Bool
  | 0, _, al => chkA n al
  | k + 1, lo, al => (List.range (n - lo)).all fun i => chkR n k (lo + i + 1) (al ++ [lo + i])
def chkN (n : Nat) : Bool := [1, 2, 3, 4].all fun s => decide (n % s ≠ 0) || chkR n (s - 1) 1 [0]
theorem chkR_spec {n : Nat} : ∀ (k lo : Nat) (al l : List Nat), chkR n k lo al = true → l.length = k → l.Pairwise (· < ·) → (∀ x ∈ l, lo ≤ x ∧ x < n) → chkA n (al ++ l) = true
  | 0, lo, al, l, h, hl, _, _ => by
    rw [List.length_eq_zero_iff] at hl
    subst hl
    rw [List.append_nil]; exact h
  | k + 1, lo, al, x :: l, h, hl, hp, hr => by
    simp only [chkR, List.all_eq_true, List.mem_range] at h
    have hx := hr x (by simp)
    have h2 := h (x - lo) (by omega)
    rw [show lo + (x - lo) = x by omega] at h2
    rw [List.pairwise_cons] at hp
    have := chkR_spec k (x + 1) (al ++ [x]) l h2 (by simpa using hl) hp.2 (fun y hy => ⟨hp.1 y hy, (hr y (by simp [hy])).2⟩)
    rwa [List.append_assoc] at this
  | k + 1, _, _, [], _, hl, _, _ => by simp at hl
set_option maxHeartbeats 20000000 in
theorem chk_2 : chkN 2 = true := by kernel_rfl
set_option maxHeartbeats 20000000 in
theorem chk_3 : chkN 3 = true := by kernel_rfl
set_option maxHeartbeats 20000000 in
theorem chk_4 : chkN 4 = true := by kernel_rfl
set_option maxHeartbeats 20000000 in
theorem chk_5 : chkN 5 = true := by kernel_rfl
set_option maxHeartbeats 20000000 in
theorem chk_6 : chkN 6 = true := by kernel_rfl
set_option maxHeartbeats 20000000 in
theorem chk_7 : chkN 7 = true := by kernel_rfl
set_option maxHeartbeats 20000000 in
theorem chk_8 : chkN 8 = true := by kernel_rfl
set_option maxHeartbeats 20000000 in
theorem chk_9 : chkN 9 = true := by kernel_rfl
set_option maxHeartbeats 20000000 in
theorem chk_10 : chkN 10 = true := by kernel_rfl
set_option maxHeartbeats 20000000 in
theorem chk_11 : chkN 11 = true := by kernel_rfl
set_option maxHeartbeats 20000000 in
theorem chk_12 : chkN 12 = true := by kernel_rfl
set_option maxHeartbeats 20000000 in
theorem chk_13 : chkN 13 = true := by kernel_rfl
set_option maxHeartbeats 20000000 in
theorem chk_14 : chkN 14 = true := by kernel_rfl
set_option maxHeartbeats 20000000 in
theorem chk_15 : chkN 15 = true := by kernel_rfl
set_option maxHeartbeats 20000000 in
theorem chk_16 : chkN 16 = true := by kernel_rfl
set_option maxHeartbeats 20000000 in
theorem chk_17 : chkN 17 = true := by kernel_rfl
set_option maxHeartbeats 20000000 in
theorem chk_18 : chkN 18 = true := by kernel_rfl
set_option maxHeartbeats 20000000 in
theorem chk_19 : chkN 19 = true := by kernel_rfl
set_option maxHeartbeats 20000000 in
theorem chk_20 : chkN 20 = true := by kernel_rfl
set_option maxHeartbeats 20000000 in
theorem chk_21 : chkN 21 = true := by kernel_rfl
set_option maxHeartbeats 20000000 in
theorem chk_22 : chkN 22 = true := by kernel_rfl
set_option maxHeartbeats 20000000 in
theorem chk_23 : chkN 23 = true := by kernel_rfl
set_option maxHeartbeats 20000000 in
theorem chk24_1 : chkR 24 2 2 [0, 1] = true := by kernel_rfl
set_option maxHeartbeats 20000000 in
theorem chk24_2 : chkR 24 2 3 [0, 2] = true := by kernel_rfl
set_option maxHeartbeats 20000000 in
theorem chk24_3 : chkR 24 2 4 [0, 3] = true := by kernel_rfl
set_option maxHeartbeats 20000000 in
theorem chk24_4 : chkR 24 2 5 [0, 4] = true := by kernel_rfl
set_option maxHeartbeats 20000000 in
theorem chk24_5 : chkR 24 2 6 [0, 5] = true := by kernel_rfl
set_option maxHeartbeats 20000000 in
theorem chk24_6 : chkR 24 2 7 [0, 6] = true := by kernel_rfl
set_option maxHeartbeats 20000000 in
theorem chk24_7 : chkR 24 2 8 [0, 7] = true := by kernel_rfl
set_option maxHeartbeats 20000000 in
theorem chk24_8 : chkR 24 2 9 [0, 8] = true := by kernel_rfl
set_option maxHeartbeats 20000000 in
theorem chk24_9 : chkR 24 2 10 [0, 9] = true := by kernel_rfl
set_option maxHeartbeats 20000000 in
theorem chk24_10 : chkR 24 2 11 [0, 10] = true := by kernel_rfl
set_option maxHeartbeats 20000000 in
theorem chk24_11 : chkR 24 2 12 [0, 11] = true := by kernel_rfl
set_option maxHeartbeats 20000000 in
theorem chk24_12 : chkR 24 2 13 [0, 12] = true := by kernel_rfl
set_option maxHeartbeats 20000000 in
theorem chk24_13 : chkR 24 2 14 [0, 13] = true := by kernel_rfl
set_option maxHeartbeats 20000000 in
theorem chk24_14 : chkR 24 2 15 [0, 14] = true := by kernel_rfl
set_option maxHeartbeats 20000000 in
theorem chk24_15 : chkR 24 2 16 [0, 15] = true := by kernel_rfl
set_option maxHeartbeats 20000000 in
theorem chk24_16 : chkR 24 2 17 [0, 16] = true := by kernel_rfl
set_option maxHeartbeats 20000000 in
theorem chk24_17 : chkR 24 2 18 [0, 17] = true := by kernel_rfl
set_option maxHeartbeats 20000000 in
theorem chk24_18 : chkR 24 2 19 [0, 18] = true := by kernel_rfl
set_option maxHeartbeats 20000000 in
theorem chk24_19 : chkR 24 2 20 [0, 19] = true := by kernel_rfl
set_option maxHeartbeats 20000000 in
theorem chk24_20 : chkR 24 2 21 [0, 20] = true := by kernel_rfl
set_option maxHeartbeats 20000000 in
theorem chk24_21 : chkR 24 2 22 [0, 21] = true := by kernel_rfl
set_option maxHeartbeats 20000000 in
theorem chk24_22 : chkR 24 2 23 [0, 22] = true := by kernel_rfl
set_option maxHeartbeats 20000000 in
theorem chk24_23 : chkR 24 2 24 [0, 23] = true := by kernel_rfl
set_option maxHeartbeats 20000000 in
theorem chk24_s : ([1, 2, 3].all fun s => decide (24 % s ≠ 0) || chkR 24 (s - 1) 1 [0]) = true := by kernel_rfl
theorem chk24_all : chkR 24 3 1 [0] = true := by
  have h : chkR 24 3 1 [0] = (List.range 23).all fun i => chkR 24 2 (1 + i + 1) ([0] ++ [1 + i]) := rfl
  rw [h, List.all_eq_true]
  intro i hi
  rw [List.mem_range] at hi
  match i, hi with
  | 0, _ => exact chk24_1
  | 1, _ => exact chk24_2
  | 2, _ => exact chk24_3
  | 3, _ => exact chk24_4
  | 4, _ => exact chk24_5
  | 5, _ => exact chk24_6
  | 6, _ => exact chk24_7
  | 7, _ => exact chk24_8
  | 8, _ => exact chk24_9
  | 9, _ => exact chk24_10
  | 10, _ => exact chk24_11
  | 11, _ => exact chk24_12
  | 12, _ => exact chk24_13
  | 13, _ => exact chk24_14
  | 14, _ => exact chk24_15
  | 15, _ => exact chk24_16
  | 16, _ => exact chk24_17
  | 17, _ => exact chk24_18
  | 18, _ => exact chk24_19
  | 19, _ => exact chk24_20
  | 20, _ => exact chk24_21
  | 21, _ => exact chk24_22
  | 22, _ => exact chk24_23
  | i + 23, h => exact absurd h (by omega)
theorem chk_24 : chkN 24 = true := by
  have h := chk24_s
  have h4 := chk24_all
  rw [List.all_eq_true] at h
  unfold chkN
  rw [List.all_eq_true]
  intro s hs
  by_cases e : s = 4
  · subst e
    rw [show 4 - 1 = 3 from rfl, h4, Bool.or_true]
  · exact h s (by simp at hs ⊢; omega)
theorem hj_chk_all (n : Nat) (h : n < 25) (h2 : 2 ≤ n) : chkN n = true := by
  match n, h, h2 with
  | 2, _, _ => exact chk_2
  | 3, _, _ => exact chk_3
  | 4, _, _ => exact chk_4
  | 5, _, _ => exact chk_5
  | 6, _, _ => exact chk_6
  | 7, _, _ => exact chk_7
  | 8, _, _ => exact chk_8
  | 9, _, _ => exact chk_9
  | 10, _, _ => exact chk_10
  | 11, _, _ => exact chk_11
  | 12, _, _ => exact chk_12
  | 13, _, _ => exact chk_13
  | 14, _, _ => exact chk_14
  | 15, _, _ => exact chk_15
  | 16, _, _ => exact chk_16
  | 17, _, _ => exact chk_17
  | 18, _, _ => exact chk_18
  | 19, _, _ => exact chk_19
  | 20, _, _ => exact chk_20
  | 21, _, _ => exact chk_21
  | 22, _, _ => exact chk_22
  | 23, _, _ => exact chk_23
  | 24, _, _ => exact chk_24
  | 0, _, h => exact absurd h (by omega)
  | 1, _, h => exact absurd h (by omega)
  | n + 25, h, _ => exact absurd h (by omega)
theorem tiled_symm {n a b : Nat} (ha : a < 2 ^ n) (hb : b < 2 ^ n) (h : Tiled n a b) : Tiled n b a := by
  intro x hx
  have h1 := h x hx
  rw [← h1]
  unfold cv
  have hf : ∀ i, i < n → (x + (n - i)) % n < n := fun i hi => Nat.mod_lt _ (by omega)
  have hff : ∀ i, i < n → (x + (n - (x + (n - i)) % n)) % n = i := fun i hi => sub_mod_two hx hi
  rw [← cnt_perm (f := fun i => (x + (n - i)) % n) hf (fun i hi j hj e => by rw [← hff i hi, ← hff j hj]; exact congrArg (fun z => (x + (n - z)) % n) e) (fun y => b.testBit y && (moveN n a y).testBit x)]
  refine cnt_congr (fun y hy => ?_)
  rw [testBit_moveN hb hy hx, testBit_moveN ha (hf y hy) hx, hff y hy, Bool.and_comm]
theorem foldl_set (l : List Nat) : ∀ s, l.foldl (fun s x => s ||| 2 ^ x) s = orAll s l := fun _ => rfl
theorem setOf_filter {n a : Nat} (ha : a < 2 ^ n) : setOf ((List.range n).filter a.testBit) = a := by
  show orAll 0 _ = a
  refine bits_ext (orAll_lt _ (fun x hx => List.mem_range.1 (List.mem_filter.1 hx).1) 0 (Nat.two_pow_pos n)) ha (fun i hi => ?_)
  rw [testBit_orAll, Nat.zero_testBit, Bool.false_or, Bool.eq_iff_iff, decide_eq_true_iff, List.mem_filter, List.mem_range]
  exact ⟨fun h => h.2, fun h => ⟨hi, h⟩⟩
theorem small_side {n a b : Nat} (hn : 2 ≤ n) (hn2 : n ≤ 24) (ha : a < 2 ^ n) (hb : b < 2 ^ n) (a0 : a.testBit 0 = true) (b0 : b.testBit 0 = true) (h : Tiled n a b) (hs : chSize n a ≤ 4) : perB n a = true ∨ perB n b = true := by
  obtain ⟨al, hal⟩ : ∃ al, al = (List.range n).filter a.testBit := ⟨_, rfl⟩
  have hset : setOf al = a := by rw [hal]; exact setOf_filter ha
  have hlen : al.length = chSize n a := by rw [hal, chSize_cnt, cnt_eq, List.countP_eq_length_filter]
  have hp : al.Pairwise (· < ·) := by rw [hal]; exact List.Pairwise.filter _ List.pairwise_lt_range
  have hm : ∀ x, x ∈ al ↔ x < n ∧ a.testBit x = true := fun x => by rw [hal, List.mem_filter, List.mem_range]
  have hsz := tiled_size ha h
  obtain ⟨y, l, e⟩ : ∃ y l, al = y :: l := by
    cases al with
    | nil => exact absurd ((hm 0).2 ⟨by omega, a0⟩) (by simp)
    | cons y l => exact ⟨y, l, rfl⟩
  rw [e, List.pairwise_cons] at hp
  have hy : y = 0 := by
    have := (hm 0).2 ⟨by omega, a0⟩
    rw [e] at this
    rcases List.mem_cons.1 this with h | h
    · exact h.symm
    · have := hp.1 0 h; omega
  subst hy
  have hc := hj_chk_all n (by omega) hn
  unfold chkN at hc
  rw [List.all_eq_true] at hc
  have hl : l.length + 1 = chSize n a := by rw [← hlen, e]; rfl
  have hmem : chSize n a ∈ [1, 2, 3, 4] := by
    have : chSize n a = 1 ∨ chSize n a = 2 ∨ chSize n a = 3 ∨ chSize n a = 4 := by omega
    simp [this]
  have h1 := hc _ hmem
  have hdiv : n % chSize n a = 0 := Nat.mod_eq_zero_of_dvd ⟨chSize n b, hsz.symm⟩
  rw [decide_eq_false (by simp [hdiv]), Bool.false_or] at h1
  have h2 := chkR_spec (chSize n a - 1) 1 [0] l h1 (by omega) hp.2 (fun x hx => ⟨hp.1 x hx, ((hm x).1 (by rw [e]; simp [hx])).1⟩)
  rw [show [0] ++ l = al by rw [e]; rfl] at h2
  unfold chkA at h2
  simp only [hset, Bool.or_eq_true] at h2
  rcases h2 with h2 | h2
  · exact .inl h2
  · right
    refine visOk_spec (fun x hx hb => (hm x).2 ⟨hx, hb⟩) _ _ _ h2 b ?_
    exact ((partners_spec (by omega) ha a0 (stepOk_A ha)).2 b).2 ⟨hb, h, b0⟩
/-- **of two rhythms that fill the circle one has a period below it** -/
theorem hajos {n a b : Nat} (hn : 2 ≤ n) (hn2 : n ≤ 24) (ha : a < 2 ^ n) (hb : b < 2 ^ n) (a0 : a.testBit 0 = true) (b0 : b.testBit 0 = true) (h : Tiled n a b) : perB n a = true ∨ perB n b = true := by
  have hsz := tiled_size ha h
  by_cases hs : chSize n a ≤ 4
  · exact small_side hn hn2 ha hb a0 b0 h hs
  · have h4 : chSize n b ≤ 4 := by
      rcases Nat.lt_or_ge 4 (chSize n b) with h5 | h5
      · have := Nat.mul_le_mul (show 5 ≤ chSize n a by omega) (show 5 ≤ chSize n b by omega)
        omega
      · exact h5
    exact (small_side hn hn2 hb ha b0 a0 (tiled_symm ha hb h) h4).symm
end Go.Proofs.YtkidgakjeahebaaDoor.P
namespace Go.Proofs.YtkidgakjeahebaaDoor.P
/-! Partners of a rhythm with a period, and of a rhythm turned. Plain Lean. -/
theorem back_mod {n d x y : Nat} (hd : 1 ≤ d) (hn : n % d = 0) (hy : y < n) : (x + (n - y)) % n % d = (x % d + (d - y % d)) % d := by
  have hdv : d ∣ n := Nat.dvd_of_mod_eq_zero hn
  rw [Nat.mod_mod_of_dvd _ hdv]
  refine add_mod_inj (e := y) (Nat.mod_lt _ hd) (Nat.mod_lt _ hd) ?_
  rw [Nat.mod_add_mod, Nat.mod_add_mod]
  have h1 : (x + (n - y) + y) % d = x % d := by
    rw [show x + (n - y) + y = x + n by omega, Nat.add_mod, hn, Nat.add_zero, Nat.mod_mod]
  have h2 : (x % d + (d - y % d) + y) % d = x % d := by
    have e1 := Nat.div_add_mod y d
    have e2 := Nat.mod_lt y hd
    rw [show x % d + (d - y % d) + y = x % d + d * (y / d + 1) by rw [Nat.mul_add]; omega, Nat.add_mul_mod_self_left, Nat.mod_mod]
  rw [h1, h2]
theorem per_mod {n a d : Nat} (ha : a < 2 ^ n) (h : IsPer n a d) {x : Nat} (hx : x < n) : a.testBit (x % d) = a.testBit x := by
  have hd := h.1
  have := per_bit ha h (x / d) (x % d) (by have := Nat.mod_add_div x d; rw [Nat.mul_comm] at this; omega)
  rw [← this]
  congr 1
  have := Nat.mod_add_div x d; rw [Nat.mul_comm] at this; omega
theorem move_fold {n a d x y : Nat} (ha : a < 2 ^ n) (h : IsPer n a d) (hx : x < n) (hy : y < n) : (moveN n a y).testBit x = (moveN d (a &&& (2 ^ d - 1)) (y % d)).testBit (x % d) := by
  have hd := h.1
  have hb : a &&& (2 ^ d - 1) < 2 ^ d := by have := Nat.two_pow_pos d; have := @Nat.and_le_right a (2 ^ d - 1); omega
  rw [testBit_moveN ha hy hx, testBit_moveN hb (Nat.mod_lt _ hd) (Nat.mod_lt _ hd), ← back_mod hd h.2.2.1 hy, Nat.testBit_and, Nat.testBit_two_pow_sub_one, per_mod ha h (Nat.mod_lt _ (by omega))]
  have : (x + (n - y)) % n % d < d := Nat.mod_lt _ hd
  simp [this]
def modSet (n d c : Nat) : Nat := orAll 0 (((List.range n).filter c.testBit).map (· % d))
theorem modSet_bit {n d c i : Nat} : (modSet n d c).testBit i = true ↔ ∃ y, y < n ∧ c.testBit y = true ∧ y % d = i := by
  unfold modSet
  rw [testBit_orAll]
  simp only [Nat.zero_testBit, Bool.false_or, decide_eq_true_eq, List.mem_map, List.mem_filter, List.mem_range]
  constructor
  · rintro ⟨y, ⟨h1, h2⟩, h3⟩; exact ⟨y, h1, h2, h3⟩
  · rintro ⟨y, h1, h2, h3⟩; exact ⟨y, ⟨h1, h2⟩, h3⟩
theorem modSet_lt {n d c : Nat} (hd : 1 ≤ d) : modSet n d c < 2 ^ d := by
  unfold modSet
  refine orAll_lt _ (fun x hx => ?_) _ (Nat.two_pow_pos d)
  simp only [List.mem_map] at hx
  obtain ⟨y, _, rfl⟩ := hx
  exact Nat.mod_lt _ hd
theorem fold_partner {n a d : Nat} (ha : a < 2 ^ n) (h : IsPer n a d) : (∃ c, c < 2 ^ n ∧ Tiled n a c ∧ c.testBit 0 = true) ↔ (∃ c, c < 2 ^ d ∧ Tiled d (a &&& (2 ^ d - 1)) c ∧ c.testBit 0 = true) := by
  have hd := h.1
  have hdn := h.2.1
  simp only [tiled_fills]
  constructor
  · rintro ⟨c, hc, ⟨h1, h2⟩, h0⟩
    refine ⟨modSet n d c, modSet_lt hd, ⟨fun x hx => ?_, fun x hx y hy z hz hy1 hz1 hy2 hz2 => ?_⟩, modSet_bit.2 ⟨0, by omega, h0, Nat.zero_mod d⟩⟩
    · obtain ⟨y, hy, hcy, hm⟩ := h1 x (by omega)
      refine ⟨y % d, Nat.mod_lt _ hd, modSet_bit.2 ⟨y, hy, hcy, rfl⟩, ?_⟩
      rw [move_fold ha h (by omega) hy, Nat.mod_eq_of_lt hx] at hm; exact hm
    · obtain ⟨y', hy', hcy, rfl⟩ := modSet_bit.1 hy1
      obtain ⟨z', hz', hcz, rfl⟩ := modSet_bit.1 hz1
      have e1 := move_fold ha h (show x < n by omega) hy'
      have e2 := move_fold ha h (show x < n by omega) hz'
      rw [Nat.mod_eq_of_lt hx] at e1 e2
      rw [h2 x (by omega) y' hy' z' hz' hcy hcz (e1.trans hy2) (e2.trans hz2)]
  · rintro ⟨c, hc, ⟨h1, h2⟩, h0⟩
    have hlt : ∀ y, c.testBit y = true → y < d := fun y hy => by
      rcases Nat.lt_or_ge y d with h | h
      · exact h
      · rw [testBit_big hc h] at hy; cases hy
    refine ⟨c, Nat.lt_of_lt_of_le hc (Nat.pow_le_pow_right (by omega) hdn), ⟨fun x hx => ?_, fun x hx y hy z hz hy1 hz1 hy2 hz2 => ?_⟩, h0⟩
    · obtain ⟨y, hy, hcy, hm⟩ := h1 (x % d) (Nat.mod_lt _ hd)
      refine ⟨y, by omega, hcy, ?_⟩
      rw [move_fold ha h hx (by omega), Nat.mod_eq_of_lt hy]; exact hm
    · have _ := hx
      have hyd := hlt y hy1
      have hzd := hlt z hz1
      rw [move_fold ha h hx hy, Nat.mod_eq_of_lt hyd] at hy2
      rw [move_fold ha h hx hz, Nat.mod_eq_of_lt hzd] at hz2
      exact h2 (x % d) (Nat.mod_lt _ hd) y hyd z hzd hy1 hz1 hy2 hz2
/-- the image of a set -/
def imgSet (n : Nat) (f : Nat → Nat) (c : Nat) : Nat := orAll 0 (((List.range n).filter c.testBit).map f)
theorem imgSet_bit {n : Nat} {f : Nat → Nat} {c i : Nat} : (imgSet n f c).testBit i = true ↔ ∃ y, y < n ∧ c.testBit y = true ∧ f y = i := by
  unfold imgSet
  rw [testBit_orAll]
  simp only [Nat.zero_testBit, Bool.false_or, decide_eq_true_eq, List.mem_map, List.mem_filter, List.mem_range]
  constructor
  · rintro ⟨y, ⟨h1, h2⟩, h3⟩; exact ⟨y, h1, h2, h3⟩
  · rintro ⟨y, h1, h2, h3⟩; exact ⟨y, ⟨h1, h2⟩, h3⟩
theorem imgSet_lt {n : Nat} {f : Nat → Nat} {c : Nat} (hf : ∀ x, x < n → f x < n) : imgSet n f c < 2 ^ n := by
  unfold imgSet
  refine orAll_lt _ (fun x hx => ?_) _ (Nat.two_pow_pos n)
  simp only [List.mem_map, List.mem_filter, List.mem_range] at hx
  obtain ⟨y, ⟨h, _⟩, rfl⟩ := hx
  exact hf y h
def neg1 (n x : Nat) : Nat := (n - x) % n
theorem neg1_lt {n x : Nat} (hn : 1 ≤ n) : neg1 n x < n := Nat.mod_lt _ hn
theorem neg1_eq {n x : Nat} (hx : x < n) : neg1 n x = if x = 0 then 0 else n - x := by
  unfold neg1
  by_cases e : x = 0
  · subst e; simp
  · rw [if_neg e, Nat.mod_eq_of_lt (by omega)]
theorem neg1_neg1 {n x : Nat} (hx : x < n) : neg1 n (neg1 n x) = x := by
  have h1 := neg1_eq hx
  have h2 := neg1_eq (n := n) (x := neg1 n x) (neg1_lt (by omega))
  split at h1 <;> split at h2 <;> omega
def negN (n c : Nat) : Nat := imgSet n (neg1 n) c
theorem negN_lt {n c : Nat} (hn : 1 ≤ n) : negN n c < 2 ^ n := imgSet_lt (fun _ _ => neg1_lt hn)
theorem negN_bit {n c i : Nat} (hi : i < n) : (negN n c).testBit i = c.testBit (neg1 n i) := by
  rw [Bool.eq_iff_iff]
  unfold negN
  rw [imgSet_bit]
  constructor
  · rintro ⟨y, hy, hc, rfl⟩; rw [neg1_neg1 hy]; exact hc
  · intro h; exact ⟨neg1 n i, neg1_lt (by omega), h, neg1_neg1 hi⟩
theorem negN_negN {n c : Nat} (hn : 1 ≤ n) (hc : c < 2 ^ n) : negN n (negN n c) = c :=
  bits_ext (negN_lt hn) hc (fun i hi => by rw [negN_bit hi, negN_bit (neg1_lt hn), neg1_neg1 hi])
theorem move_neg {n a x y : Nat} (ha : a < 2 ^ n) (hx : x < n) (hy : y < n) : (moveN n (negN n a) (neg1 n y)).testBit (neg1 n x) = (moveN n a y).testBit x := by
  have hn : 1 ≤ n := by omega
  rw [testBit_moveN (negN_lt hn) (neg1_lt hn) (neg1_lt hn), testBit_moveN ha hy hx, negN_bit (Nat.mod_lt _ hn)]
  congr 1
  have h1 := neg1_eq hx
  have h2 := neg1_eq hy
  have hm : ∀ u, u < 2 * n → u % n = if u < n then u else u - n := fun u hu => by
    by_cases e : u < n
    · rw [if_pos e, Nat.mod_eq_of_lt e]
    · rw [if_neg e, Nat.mod_eq_sub_mod (by omega), Nat.mod_eq_of_lt (by omega)]
  have e1 : ∀ v, v = (neg1 n x + (n - neg1 n y)) % n → neg1 n v = (x + (n - y)) % n := by
    intro v hv
    by_cases hy0 : y = 0
    · subst hy0
      simp only [if_true] at h2
      rw [h2, Nat.sub_zero, Nat.add_mod_right, Nat.mod_eq_of_lt (neg1_lt hn)] at hv
      subst hv
      rw [neg1_neg1 hx, Nat.sub_zero, Nat.add_mod_right, Nat.mod_eq_of_lt hx]
    · rw [if_neg hy0] at h2
      rw [hm _ (by have := neg1_lt (x := x) hn; omega)] at hv
      have hvn : v < n := by have := neg1_lt (x := x) hn; split at hv <;> omega
      have h3 := neg1_eq hvn
      rw [h3, hm _ (by omega)]
      split at h1 <;> split at hv <;> split <;> split <;> omega
  exact e1 _ rfl
theorem tiled_neg {n a c : Nat} (ha : a < 2 ^ n) (h : Tiled n a c) : Tiled n (negN n a) (negN n c) := by
  rw [tiled_fills] at h ⊢
  obtain ⟨h1, h2⟩ := h
  refine ⟨fun x hx => ?_, fun x hx y hy z hz hy1 hz1 hy2 hz2 => ?_⟩
  · have hn : 1 ≤ n := by omega
    obtain ⟨y, hy, hc, hm⟩ := h1 (neg1 n x) (neg1_lt hn)
    refine ⟨neg1 n y, neg1_lt hn, ?_, ?_⟩
    · rw [negN_bit (neg1_lt hn), neg1_neg1 hy]; exact hc
    · have := move_neg ha (neg1_lt (x := x) hn) hy
      rw [neg1_neg1 hx] at this
      rw [this]; exact hm
  · have hn : 1 ≤ n := by omega
    rw [negN_bit hy] at hy1
    rw [negN_bit hz] at hz1
    have e1 := move_neg ha (neg1_lt (x := x) hn) (neg1_lt (x := y) hn)
    have e2 := move_neg ha (neg1_lt (x := x) hn) (neg1_lt (x := z) hn)
    rw [neg1_neg1 hx, neg1_neg1 hy] at e1
    rw [neg1_neg1 hx, neg1_neg1 hz] at e2
    have := h2 (neg1 n x) (neg1_lt hn) (neg1 n y) (neg1_lt hn) (neg1 n z) (neg1_lt hn) hy1 hz1 (e1.symm.trans hy2) (e2.symm.trans hz2)
    rw [← neg1_neg1 hy, this, neg1_neg1 hz]
end Go.Proofs.YtkidgakjeahebaaDoor.P
namespace Go.Proofs.YtkidgakjeahebaaDoor.P
/-! Tijdeman: a tile multiplied by a number without a common factor is a tile with the same partner -/
/-- all that a list moves a function to, summed -/
def sumOp (A : List Int) (f : Int → Int) (x : Int) : Int := (A.map fun a => f (x - a)).sum
def iterOp (A : List Int) : Nat → (Int → Int) → Int → Int
  | 0, f => f
  | k + 1, f => sumOp A (iterOp A k f)
def bin : Nat → Nat → Nat
  | _, 0 => 1
  | 0, _ + 1 => 0
  | n + 1, k + 1 => bin n k + bin n (k + 1)
theorem bin_over : ∀ (n k : Nat), n < k → bin n k = 0
  | 0, k + 1, _ => rfl
  | n + 1, k + 1, h => by simp [bin, bin_over n k (by omega), bin_over n (k + 1) (by omega)]
theorem bin_zero (n : Nat) : bin n 0 = 1 := by cases n <;> rfl
theorem bin_self : ∀ n : Nat, bin n n = 1
  | 0 => rfl
  | n + 1 => by simp [bin, bin_self n, bin_over n (n + 1) (by omega)]
/-- a sum over the numbers below a bound -/
def upto (f : Nat → Int) : Nat → Int
  | 0 => 0
  | n + 1 => upto f n + f n
theorem upto_congr {f g : Nat → Int} : ∀ {n : Nat}, (∀ i, i < n → f i = g i) → upto f n = upto g n
  | 0, _ => rfl
  | n + 1, h => by simp only [upto]; rw [upto_congr (fun i hi => h i (by omega)), h n (by omega)]
theorem upto_add (f g : Nat → Int) : ∀ n : Nat, upto (fun i => f i + g i) n = upto f n + upto g n
  | 0 => rfl
  | n + 1 => by simp only [upto, upto_add f g n]; omega
theorem upto_first (f : Nat → Int) : ∀ n : Nat, upto f (n + 1) = f 0 + upto (fun i => f (i + 1)) n
  | 0 => by simp [upto]
  | n + 1 => by rw [upto, upto_first f n]; simp only [upto]; omega
theorem upto_mul (c : Int) (f : Nat → Int) : ∀ n : Nat, upto (fun i => c * f i) n = c * upto f n
  | 0 => by simp [upto]
  | n + 1 => by simp only [upto, upto_mul c f n, Int.mul_add]
theorem sumOp_upto (A : List Int) (F : Nat → Int → Int) (n : Nat) (x : Int) : sumOp A (fun y => upto (fun i => F i y) n) x = upto (fun i => sumOp A (F i) x) n := by
  induction n with
  | zero => unfold sumOp; simp only [upto]; induction A with
    | nil => rfl
    | cons a A ih => simpa using ih
  | succ n ih =>
    have h2 : ∀ B : List Int, sumOp B (fun y => upto (fun i => F i y) (n + 1)) x = sumOp B (fun y => upto (fun i => F i y) n) x + sumOp B (F n) x := by
      intro B
      unfold sumOp; simp only [upto]
      induction B with
      | nil => rfl
      | cons a B ih2 => simp only [List.map_cons, List.sum_cons] at ih2 ⊢; omega
    rw [h2, ih]; rfl
theorem sumOp_mul (A : List Int) (c : Int) (f : Int → Int) (x : Int) : sumOp A (fun y => c * f y) x = c * sumOp A f x := by
  unfold sumOp
  induction A with
  | nil => simp
  | cons a A ih => simp only [List.map_cons, List.sum_cons, Int.mul_add] at ih ⊢; omega
theorem sumOp_move (A : List Int) (f : Int → Int) (c x : Int) : sumOp A (fun y => f (y - c)) x = sumOp A f (x - c) := by
  unfold sumOp
  congr 1
  apply List.map_congr_left
  intro a _
  show f (x - a - c) = f (x - c - a)
  congr 1; omega
theorem sumOp_cons (a : Int) (A : List Int) (f : Int → Int) (x : Int) : sumOp (a :: A) f x = f (x - a) + sumOp A f x := rfl
/-- the binomial theorem for a step and a sum of steps -/
theorem iter_cons (a : Int) (A : List Int) (f : Int → Int) : ∀ (n : Nat) (x : Int), iterOp (a :: A) n f x = upto (fun k => (bin n k : Int) * iterOp A (n - k) f (x - k * a)) (n + 1)
  | 0, x => by simp [iterOp, upto, bin]
  | n + 1, x => by
    have ih := iter_cons a A f n
    have e1 : iterOp (a :: A) (n + 1) f x = upto (fun k => (bin n k : Int) * iterOp A (n - k) f (x - a - k * a)) (n + 1) + upto (fun k => (bin n k : Int) * iterOp A (n + 1 - k) f (x - k * a)) (n + 1) := by
      show sumOp (a :: A) (iterOp (a :: A) n f) x = _
      rw [sumOp_cons, ih, show iterOp (a :: A) n f = fun y => upto (fun k => (bin n k : Int) * iterOp A (n - k) f (y - k * a)) (n + 1) from funext ih, sumOp_upto]
      congr 1
      apply upto_congr
      intro k hk
      rw [sumOp_mul, sumOp_move A (iterOp A (n - k) f)]
      rw [show n + 1 - k = (n - k) + 1 by omega]; rfl
    rw [e1]
    -- the right side: k = 0 apart, Pascal for the others
    rw [upto_first (fun k => (bin (n + 1) k : Int) * iterOp A (n + 1 - k) f (x - k * a)) (n + 1)]
    have e2 : upto (fun i => (bin (n + 1) (i + 1) : Int) * iterOp A (n + 1 - (i + 1)) f (x - ((i + 1 : Nat) : Int) * a)) (n + 1) =
        upto (fun k => (bin n k : Int) * iterOp A (n - k) f (x - a - k * a)) (n + 1) + upto (fun i => (bin n (i + 1) : Int) * iterOp A (n + 1 - (i + 1)) f (x - ((i + 1 : Nat) : Int) * a)) (n + 1) := by
      rw [← upto_add]
      apply upto_congr
      intro i hi
      have e3 : x - ((i + 1 : Nat) : Int) * a = x - a - i * a := by rw [Int.natCast_add, Int.add_mul]; omega
      rw [e3, show n + 1 - (i + 1) = n - i by omega]
      show ((bin n i + bin n (i + 1) : Nat) : Int) * _ = _
      rw [Int.natCast_add, Int.add_mul]
    rw [e2]
    have e4 : upto (fun k => (bin n k : Int) * iterOp A (n + 1 - k) f (x - k * a)) (n + 1 + 1) = upto (fun k => (bin n k : Int) * iterOp A (n + 1 - k) f (x - k * a)) (n + 1) := by
      rw [upto, bin_over n (n + 1) (by omega)]; simp
    rw [← e4, upto_first (fun k => (bin n k : Int) * iterOp A (n + 1 - k) f (x - k * a)) (n + 1)]
    simp only [bin_zero]
    omega
/-- what Frobenius asks of p -/
def Frob (p : Nat) : Prop := 1 ≤ p ∧ ∀ k, 0 < k → k < p → p ∣ bin p k
theorem iter_frob {p : Nat} (hp : Frob p) (f : Int → Int) : ∀ (A : List Int) (x : Int), (p : Int) ∣ iterOp A p f x - (A.map fun a => f (x - p * a)).sum
  | [], x => by
    have : iterOp [] p f x = 0 := by
      obtain ⟨q, rfl⟩ : ∃ q, p = q + 1 := ⟨p - 1, by have := hp.1; omega⟩
      rfl
    rw [this]; simp
  | a :: A, x => by
    have ih := iter_frob hp f A x
    obtain ⟨q, hq⟩ : ∃ q, p = q + 1 := ⟨p - 1, by have := hp.1; omega⟩
    rw [iter_cons, upto]
    have e1 : upto (fun k => (bin p k : Int) * iterOp A (p - k) f (x - k * a)) p = iterOp A p f x + upto (fun i => (bin p (i + 1) : Int) * iterOp A (p - (i + 1)) f (x - ((i + 1 : Nat) : Int) * a)) q := by
      have := upto_first (fun k => (bin p k : Int) * iterOp A (p - k) f (x - k * a)) q
      rw [← hq] at this
      rw [this]
      simp [bin_zero]
    rw [e1, bin_self, Nat.sub_self]
    have e2 : (p : Int) ∣ upto (fun i => (bin p (i + 1) : Int) * iterOp A (p - (i + 1)) f (x - ((i + 1 : Nat) : Int) * a)) q := by
      have : ∀ m, m ≤ q → (p : Int) ∣ upto (fun i => (bin p (i + 1) : Int) * iterOp A (p - (i + 1)) f (x - ((i + 1 : Nat) : Int) * a)) m := by
        intro m
        induction m with
        | zero => intro _; exact Int.dvd_zero _
        | succ m ihm =>
          intro hm
          exact Int.dvd_add (ihm (by omega)) (Int.dvd_mul_of_dvd_left (Int.natCast_dvd_natCast.2 (hp.2 (m + 1) (by omega) (by omega))))
      exact this q (Nat.le_refl _)
    have e3 := Int.dvd_add ih e2
    simp only [List.map_cons, List.sum_cons, iterOp]
    have e4 : iterOp A p f x + upto (fun i => (bin p (i + 1) : Int) * iterOp A (p - (i + 1)) f (x - ((i + 1 : Nat) : Int) * a)) q + ((1 : Nat) : Int) * f (x - p * a) - (f (x - p * a) + (A.map fun a => f (x - p * a)).sum) = iterOp A p f x - (A.map fun a => f (x - p * a)).sum + upto (fun i => (bin p (i + 1) : Int) * iterOp A (p - (i + 1)) f (x - ((i + 1 : Nat) : Int) * a)) q := by
      generalize upto _ q = u
      generalize (A.map fun a => f (x - p * a)).sum = v
      simp only [Int.natCast_one, Int.one_mul]; omega
    rw [e4]; exact e3
/-- A and b fill the circle: each beat once -/
def TilesF (n : Nat) (A : List Int) (b : Int → Int) : Prop := (∀ x, 0 ≤ b x) ∧ (∀ x, b (x + n) = b x) ∧ (∀ x, sumOp A b x = 1)
theorem iter_tiles {n : Nat} {A : List Int} {b : Int → Int} (h : TilesF n A b) : ∀ (k : Nat) (x : Int), iterOp A (k + 1) b x = (A.length : Int) ^ k
  | 0, x => by simpa [iterOp] using h.2.2 x
  | k + 1, x => by
    show sumOp A (iterOp A (k + 1) b) x = _
    rw [show iterOp A (k + 1) b = fun _ => (A.length : Int) ^ k from funext (iter_tiles h k)]
    unfold sumOp
    rw [Int.pow_succ]
    generalize (A.length : Int) ^ k = c
    induction A with
    | nil => simp
    | cons a A ih =>
      have : ∀ B : List Int, (B.map fun _ => c).sum = c * B.length := by
        intro B; induction B with
        | nil => simp
        | cons b B ih => simp only [List.map_cons, List.sum_cons, ih, List.length_cons, Int.natCast_add, Int.mul_add]; omega
      exact this _
theorem sum_const (c : Int) : ∀ B : List Int, (B.map fun _ => c).sum = c * B.length
  | [] => by simp
  | b :: B => by simp only [List.map_cons, List.sum_cons, sum_const c B, List.length_cons, Int.natCast_add, Int.mul_add]; omega
/-- the sum over one time around does not hang on where it begins -/
theorem upto_turn {n : Nat} (b : Int → Int) (hb : ∀ x, b (x + n) = b x) (c : Int) : upto (fun i => b (i + c)) n = upto (fun i => b i) n := by
  have step : ∀ c : Int, upto (fun i => b (i + (c + 1))) n = upto (fun i => b (i + c)) n := by
    intro c
    have h1 := upto_first (fun i => b (i + c)) n
    have h2 : upto (fun i => b (i + c)) (n + 1) = upto (fun i => b (i + c)) n + b (n + c) := rfl
    have h3 : b (n + c) = b (((0 : Nat) : Int) + c) := by rw [Int.add_comm, hb]; simp
    have h4 : upto (fun i => b (((i + 1 : Nat) : Int) + c)) n = upto (fun i => b (i + (c + 1))) n := upto_congr (fun i _ => by congr 1; omega)
    omega
  have up : ∀ k : Nat, ∀ c : Int, upto (fun i => b (i + (c + k))) n = upto (fun i => b (i + c)) n := by
    intro k
    induction k with
    | zero => intro c; simp
    | succ k ih => intro c; rw [← ih c, ← step (c + k)]; apply upto_congr; intro i _; congr 1; omega
  rcases Int.le_total 0 c with h | h
  · obtain ⟨k, rfl⟩ := Int.eq_ofNat_of_zero_le h
    have := up k 0
    simpa using this
  · obtain ⟨k, hk⟩ := Int.eq_ofNat_of_zero_le (show 0 ≤ -c by omega)
    have := up k c
    rw [← this]; apply upto_congr; intro i _; congr 1; omega
theorem upto_sumOp {n : Nat} (b : Int → Int) (hb : ∀ x, b (x + n) = b x) (A : List Int) : upto (fun i => sumOp A b i) n = upto (fun i => b i) n * A.length := by
  induction A with
  | nil => have : ∀ m, upto (fun i => sumOp [] b i) m = 0 := by
             intro m; induction m with
             | zero => rfl
             | succ m ih => rw [upto, ih]; rfl
           rw [this]; simp
  | cons a A ih =>
    simp only [sumOp_cons]
    rw [upto_add, ih]
    have : upto (fun i => b (i - a)) n = upto (fun i => b i) n := by
      rw [← upto_turn b hb (-a)]; apply upto_congr; intro i _; congr 1
    rw [this, List.length_cons, Int.natCast_add, Int.mul_add]; omega
theorem sumOp_period {n : Nat} (b : Int → Int) (hb : ∀ x, b (x + n) = b x) (A : List Int) (x : Int) : sumOp A b (x + n) = sumOp A b x := by
  unfold sumOp
  congr 1
  apply List.map_congr_left
  intro a _
  rw [show x + n - a = (x - a) + n by omega, hb]
theorem upto_ge {f : Nat → Int} : ∀ {n : Nat}, (∀ i, i < n → 1 ≤ f i) → (n : Int) ≤ upto f n
  | 0, _ => by simp [upto]
  | n + 1, h => by have := upto_ge (f := f) (n := n) (fun i hi => h i (by omega)); have := h n (by omega); simp only [upto]; omega
theorem upto_one {f : Nat → Int} : ∀ {n : Nat}, (∀ i, i < n → 1 ≤ f i) → upto f n = n → ∀ i, i < n → f i = 1
  | 0, _, _, _, h => by omega
  | n + 1, h, e, i, hi => by
    have h1 := upto_ge (f := f) (n := n) (fun i hi => h i (by omega))
    have h2 := h n (by omega)
    simp only [upto] at e
    rcases Nat.lt_or_ge i n with h3 | h3
    · exact upto_one (fun i hi => h i (by omega)) (by omega) i h3
    · obtain rfl : i = n := by omega
      omega
theorem period_mod {n : Nat} (f : Int → Int) (hf : ∀ x, f (x + n) = f x) (x : Int) : f x = f (x % n) := by
  have up : ∀ (k : Nat) (x : Int), f (x + n * k) = f x := by
    intro k
    induction k with
    | zero => intro x; simp
    | succ k ih => intro x; rw [Int.natCast_add, Int.mul_add, ← Int.add_assoc]; simp only [Int.natCast_one, Int.mul_one]; rw [hf, ih]
  have h := Int.mul_ediv_add_emod x n
  rcases Int.le_total 0 (x / n) with h0 | h0
  · obtain ⟨k, hk⟩ := Int.eq_ofNat_of_zero_le h0
    rw [hk] at h
    have := up k (x % n)
    rw [← this]; congr 1; omega
  · obtain ⟨k, hk⟩ := Int.eq_ofNat_of_zero_le (show 0 ≤ -(x / n) by omega)
    have e : (n : Int) * (x / n) = -(n * k) := by rw [← hk, Int.mul_neg]; omega
    have := up k x
    rw [← this]; congr 1; omega
theorem tiles_frob {n p : Nat} (hn : 0 < n) (hp : Frob p) (hp1 : 1 < p) (hc : Nat.Coprime p n) {A : List Int} {b : Int → Int} (h : TilesF n A b) : TilesF n (A.map fun a => p * a) b := by
  refine ⟨h.1, h.2.1, ?_⟩
  have hsum := upto_sumOp b h.2.1 A
  rw [show (fun i : Nat => sumOp A b i) = fun _ => (1 : Int) from funext fun i => h.2.2 _] at hsum
  have hone : ∀ m : Nat, upto (fun _ => (1 : Int)) m = m := by
    intro m; induction m with
    | zero => rfl
    | succ m ih => rw [upto, ih]; omega
  rw [hone] at hsum
  have hdv : A.length ∣ n := by
    have : (A.length : Int) ∣ (n : Int) := ⟨_, by rw [Int.mul_comm]; exact hsum⟩
    exact Int.natCast_dvd_natCast.1 this
  have hcA : Nat.Coprime p A.length := Nat.Coprime.coprime_dvd_right hdv hc
  have e0 : ∀ x, sumOp (A.map fun a => p * a) b x = (A.map fun a => b (x - p * a)).sum := by
    intro x; unfold sumOp; rw [List.map_map]; rfl
  have hge : ∀ x, 1 ≤ sumOp (A.map fun a => p * a) b x := by
    intro x
    have h0 : 0 ≤ sumOp (A.map fun a => p * a) b x := by
      unfold sumOp
      generalize (A.map fun a => (p : Int) * a) = B
      induction B with
      | nil => simp
      | cons c B ih => have := h.1 (x - c); simp only [List.map_cons, List.sum_cons]; omega
    have hne : sumOp (A.map fun a => p * a) b x ≠ 0 := by
      intro e
      have hf := iter_frob hp b A x
      rw [← e0, e, Int.sub_zero, show p = (p - 1) + 1 by omega, iter_tiles h] at hf
      rw [show p - 1 + 1 = p by omega, ← Int.natCast_pow] at hf
      have h3 := Int.natCast_dvd_natCast.1 hf
      have h4 := Nat.Coprime.pow_right (p - 1) hcA
      have h5 : p ∣ 1 := by
        have := Nat.dvd_gcd (Nat.dvd_refl p) h3
        rwa [h4] at this
      have := Nat.le_of_dvd (by omega) h5
      omega
    omega
  have hs2 := upto_sumOp b h.2.1 (A.map fun a => (p : Int) * a)
  rw [List.length_map, ← hsum] at hs2
  have hall := upto_one (f := fun i => sumOp (A.map fun a => p * a) b i) (fun i _ => hge _) hs2
  intro x
  rw [period_mod _ (sumOp_period b h.2.1 _) x]
  have h1 := Int.emod_nonneg x (show (n : Int) ≠ 0 by omega)
  have h2 := Int.emod_lt_of_pos x (show (0 : Int) < n by omega)
  have := hall (x % n).toNat (by omega)
  rwa [Int.toNat_of_nonneg h1] at this
def primes23 : List Nat := [2, 3, 5, 7, 11, 13, 17, 19, 23]
theorem frob_primes : ∀ p ∈ primes23, Frob p ∧ 1 < p := by
  have h : ∀ p ∈ primes23, 1 < p ∧ ∀ k, k < p → 0 < k → p ∣ bin p k := by decide +kernel
  intro p hp
  exact ⟨⟨by have := (h p hp).1; omega, fun k h0 h1 => (h p hp).2 k h1 h0⟩, (h p hp).1⟩
theorem tijdeman {n : Nat} (hn : 0 < n) : ∀ (m : Nat), 1 ≤ m → m ≤ 24 → Nat.Coprime m n → ∀ {A : List Int} {b : Int → Int}, TilesF n A b → TilesF n (A.map fun a => m * a) b := by
  intro m
  induction m using Nat.strongRecOn with
  | ind m ih =>
    intro h1 h24 hc A b h
    rcases Nat.eq_or_lt_of_le h1 with e | hlt
    · subst e
      simpa using h
    · have hd : ∀ m, m < 25 → 2 ≤ m → ∃ p ∈ primes23, p ∣ m := by decide +kernel
      obtain ⟨p, hp, q, rfl⟩ := hd m (by omega) hlt
      obtain ⟨hf, hp1⟩ := frob_primes p hp
      have hq : 1 ≤ q := by rcases Nat.eq_zero_or_pos q with e | e; (subst e; simp at hlt); exact e
      have hqlt : q < p * q := by have := Nat.mul_lt_mul_of_lt_of_le hp1 (Nat.le_refl q) hq; omega
      have t1 := tiles_frob hn hf hp1 (Nat.Coprime.coprime_mul_right hc) h
      have t2 := ih q hqlt hq (by omega) (Nat.Coprime.coprime_mul_left hc) t1
      rw [List.map_map] at t2
      have e : ((fun a : Int => (q : Int) * a) ∘ fun a => (p : Int) * a) = fun a => ((p * q : Nat) : Int) * a := by
        funext a
        simp only [Function.comp, Int.natCast_mul]
        rw [← Int.mul_assoc, Int.mul_comm (q : Int)]
      rwa [e] at t2
end Go.Proofs.YtkidgakjeahebaaDoor.P
namespace Go.Proofs.YtkidgakjeahebaaDoor.P
/-! Roots of rhythms by sums of primitive roots of 1 (they are whole numbers). Plain Lean. -/
/-- the sums of the j-th powers of the primitive s-th roots of 1 -/
def cT : List (List Int) := [[], [1], [1, -1], [2, -1, -1], [2, 0, -2, 0], [4, -1, -1, -1, -1], [2, 1, -1, -2, -1, 1], [6, -1, -1, -1, -1, -1, -1], [4, 0, 0, 0, -4, 0, 0, 0], [6, 0, 0, -3, 0, 0, -3, 0, 0], [4, 1, -1, 1, -1, -4, -1, 1, -1, 1], [10, -1, -1, -1, -1, -1, -1, -1, -1, -1, -1], [4, 0, 2, 0, -2, 0, -4, 0, -2, 0, 2, 0], [12, -1, -1, -1, -1, -1, -1, -1, -1, -1, -1, -1, -1], [6, 1, -1, 1, -1, 1, -1, -6, -1, 1, -1, 1, -1, 1], [8, 1, 1, -2, 1, -4, -2, 1, 1, -2, -4, 1, -2, 1, 1], [8, 0, 0, 0, 0, 0, 0, 0, -8, 0, 0, 0, 0, 0, 0, 0], [16, -1, -1, -1, -1, -1, -1, -1, -1, -1, -1, -1, -1, -1, -1, -1, -1], [6, 0, 0, 3, 0, 0, -3, 0, 0, -6, 0, 0, -3, 0, 0, 3, 0, 0], [18, -1, -1, -1, -1, -1, -1, -1, -1, -1, -1, -1, -1, -1, -1, -1, -1, -1, -1], [8, 0, 2, 0, -2, 0, 2, 0, -2, 0, -8, 0, -2, 0, 2, 0, -2, 0, 2, 0], [12, 1, 1, -2, 1, 1, -2, -6, 1, -2, 1, 1, -2, 1, -6, -2, 1, 1, -2, 1, 1], [10, 1, -1, 1, -1, 1, -1, 1, -1, 1, -1, -10, -1, 1, -1, 1, -1, 1, -1, 1, -1, 1], [22, -1, -1, -1, -1, -1, -1, -1, -1, -1, -1, -1, -1, -1, -1, -1, -1, -1, -1, -1, -1, -1, -1], [8, 0, 0, 0, 4, 0, 0, 0, -4, 0, 0, 0, -8, 0, 0, 0, -4, 0, 0, 0, 4, 0, 0, 0]]
def cS (s j : Nat) : Int := (cT.getD s []).getD (j % s) 0
theorem cS_mod (s j : Nat) : cS s (j % s) = cS s j := by unfold cS; rw [Nat.mod_mod]
theorem cS_add {s q : Nat} (h : q % s = 0) (j : Nat) : cS s (j + q) = cS s j := by unfold cS; rw [Nat.add_mod, h, Nat.add_zero, Nat.mod_mod]
theorem upto_zero0 : ∀ n : Nat, upto (fun _ => (0 : Int)) n = 0
  | 0 => rfl
  | n + 1 => by rw [upto, upto_zero0 n]; rfl
theorem upto_plus (f : Nat → Int) (a : Nat) : ∀ b, upto f (a + b) = upto f a + upto (fun i => f (a + i)) b
  | 0 => by simp [upto]
  | b + 1 => by rw [← Nat.add_assoc, upto, upto, upto_plus f a b]; omega
theorem upto_swap (f : Nat → Nat → Int) (n : Nat) : ∀ m, upto (fun i => upto (f i) n) m = upto (fun j => upto (fun i => f i j) m) n
  | 0 => by simp only [upto]; exact (upto_zero0 n).symm
  | m + 1 => by simp only [upto, upto_swap f n m, upto_add]
/-- a sum in rows of d -/
theorem upto_rows (f : Nat → Int) (d : Nat) : ∀ q, upto f (q * d) = upto (fun k => upto (fun j => f (k + j * d)) q) d
  | 0 => by rw [Nat.zero_mul]; simp only [upto]; exact (upto_zero0 d).symm
  | q + 1 => by
    rw [Nat.succ_mul, upto_plus, upto_rows f d q]
    simp only [upto]
    rw [upto_add]
    congr 1
    exact upto_congr (fun k _ => by rw [Nat.add_comm])
/-- what a rhythm's beats sum to -/
def tot (n a : Nat) (g : Nat → Int) : Int := upto (fun k => if a.testBit k then g k else 0) n
theorem tot_congr {n a : Nat} {g h : Nat → Int} (e : ∀ k, k < n → g k = h k) : tot n a g = tot n a h := upto_congr (fun k hk => by rw [e k hk])
/-- s is a root of a -/
def zr (s n a : Nat) : Prop := ∀ m, tot n a (fun k => cS s (k + m)) = 0
theorem per_rows {n a d : Nat} (ha : a < 2 ^ n) (h : IsPer n a d) (g : Nat → Int) : tot n a g = upto (fun k => if a.testBit k then upto (fun j => g (k + j * d)) (n / d) else 0) d := by
  have hd := h.1
  have hn : n = n / d * d := (Nat.div_mul_cancel (Nat.dvd_of_mod_eq_zero h.2.2.1)).symm
  unfold tot
  conv => lhs; rw [hn]
  rw [upto_rows]
  refine upto_congr (fun k hk => ?_)
  have e : ∀ j, j < n / d → a.testBit (k + j * d) = a.testBit k := fun j hj => by
    have hlt : k + j * d < n := by
      have : (j + 1) * d ≤ n / d * d := Nat.mul_le_mul_right d hj
      rw [← hn, Nat.succ_mul] at this; omega
    exact per_bit ha h j k hlt
  cases hb : a.testBit k with
  | true => rw [if_pos rfl]; exact upto_congr (fun j hj => by rw [e j hj, hb, if_pos rfl])
  | false =>
    rw [if_neg (by simp)]
    exact (upto_congr (fun j hj => by rw [e j hj, hb, if_neg (by simp)])).trans (upto_zero0 (n / d))
theorem upto_const (c : Int) : ∀ q : Nat, upto (fun _ => c) q = (q : Int) * c
  | 0 => by simp [upto]
  | q + 1 => by rw [upto, upto_const c q, Int.natCast_add, Int.add_mul]; simp
theorem per_step {g : Nat → Int} {d : Nat} (hg : ∀ k, g (k + d) = g k) (k : Nat) : ∀ j, g (k + j * d) = g k
  | 0 => by rw [Nat.zero_mul, Nat.add_zero]
  | j + 1 => by rw [Nat.succ_mul, ← Nat.add_assoc, hg, per_step hg k j]
theorem tot_fold {n a d : Nat} (ha : a < 2 ^ n) (h : IsPer n a d) {g : Nat → Int} (hg : ∀ k, g (k + d) = g k) : tot n a g = ((n / d : Nat) : Int) * tot d (a &&& (2 ^ d - 1)) g := by
  rw [per_rows ha h]
  unfold tot
  rw [← upto_mul]
  refine upto_congr (fun k hk => ?_)
  rw [Nat.testBit_and, Nat.testBit_two_pow_sub_one, decide_eq_true hk, Bool.and_true]
  cases a.testBit k with
  | true =>
    rw [if_pos rfl, if_pos rfl, ← upto_const]
    exact upto_congr (fun j _ => per_step hg k j)
  | false => rw [if_neg (by simp), if_neg (by simp), Int.mul_zero]
theorem ram_rows : ((List.range 25).all fun n => (List.range n).all fun d => (List.range 25).all fun s => !(decide (n % (d + 1) = 0) && decide (n % s = 0) && decide (¬ (d + 1) % s = 0)) || (List.range s).all fun m => decide (upto (fun j => cS s (m + j * (d + 1))) (n / (d + 1)) = 0)) = true := by kernel_rfl
theorem ram_row {n d s : Nat} (hn : n ≤ 24) (hn1 : 1 ≤ n) (hd : 1 ≤ d) (hnd : n % d = 0) (hs1 : 1 ≤ s) (hns : n % s = 0) (hds : ¬ d % s = 0) (m : Nat) : upto (fun j => cS s (m + j * d)) (n / d) = 0 := by
  have hdn : d ≤ n := Nat.le_of_dvd (by omega) (Nat.dvd_of_mod_eq_zero hnd)
  have hsn : s ≤ n := Nat.le_of_dvd (by omega) (Nat.dvd_of_mod_eq_zero hns)
  have h := ram_rows
  simp only [List.all_eq_true, List.mem_range] at h
  have h := h n (by omega) (d - 1) (by omega) s (by omega)
  rw [show d - 1 + 1 = d by omega, decide_eq_true hnd, decide_eq_true hns, decide_eq_true hds, Bool.and_self, Bool.and_self, Bool.not_true, Bool.false_or, List.all_eq_true] at h
  have h := of_decide_eq_true (h (m % s) (List.mem_range.2 (Nat.mod_lt _ hs1)))
  rw [← h]
  refine upto_congr (fun j _ => ?_)
  rw [← cS_mod s (m + j * d), ← cS_mod s (m % s + j * d)]
  congr 1
  rw [Nat.mod_add_mod]
/-- a rhythm with a period has each root that does not divide it -/
theorem zr_per {n a d s : Nat} (hn : n ≤ 24) (hn1 : 1 ≤ n) (ha : a < 2 ^ n) (h : IsPer n a d) (hs1 : 1 ≤ s) (hns : n % s = 0) (hds : ¬ d % s = 0) : zr s n a := by
  intro m
  rw [per_rows ha h]
  refine (upto_congr (fun k _ => ?_)).trans (upto_zero0 d)
  cases a.testBit k with
  | false => rw [if_neg (by simp)]
  | true =>
    rw [if_pos rfl, ← ram_row hn hn1 h.1 h.2.2.1 hs1 hns hds (k + m)]
    exact upto_congr (fun j _ => by congr 1; omega)
theorem zr_fold {n a d s : Nat} (ha : a < 2 ^ n) (h : IsPer n a d) (hds : d % s = 0) (hz : zr s d (a &&& (2 ^ d - 1))) : zr s n a := by
  intro m
  rw [tot_fold ha h (fun k => by rw [show k + d + m = k + m + d by omega, cS_add hds]), hz m, Int.mul_zero]
theorem zr_fold' {n a d s : Nat} (ha : a < 2 ^ n) (h : IsPer n a d) (hds : d % s = 0) (hz : zr s n a) : zr s d (a &&& (2 ^ d - 1)) := by
  intro m
  have := hz m
  rw [tot_fold ha h (fun k => by rw [show k + d + m = k + m + d by omega, cS_add hds])] at this
  have hq : ((n / d : Nat) : Int) ≠ 0 := by
    have : 1 ≤ n / d := Nat.div_pos h.2.1 h.1
    omega
  exact (Int.mul_eq_zero.1 this).resolve_left hq
/-- the places of a tile are different in one period of the other one -/
theorem tile_apart {n a b d : Nat} (ha : a < 2 ^ n) (a0 : a.testBit 0 = true) (h : IsPer n a d) (ht : Tiled n a b) {y z : Nat} (hy : y < n) (hz : z < n) (by1 : b.testBit y = true) (bz : b.testBit z = true) (e : y % d = z % d) : y = z := by
  have hf := (tiled_fills.1 ht).2 y hy y hy z hz by1 bz (moveN_self ha a0 hy)
  refine hf ?_
  rw [move_fold ha h hy hz, ← e, ← move_fold ha h hy hy]
  exact moveN_self ha a0 hy
theorem fold_tile {n a b d : Nat} (ha : a < 2 ^ n) (h : IsPer n a d) (ht : Tiled n a b) : Tiled d (a &&& (2 ^ d - 1)) (modSet n d b) := by
  have hd := h.1
  have hdn := h.2.1
  rw [tiled_fills] at ht ⊢
  obtain ⟨h1, h2⟩ := ht
  refine ⟨fun x hx => ?_, fun x hx y hy z hz hy1 hz1 hy2 hz2 => ?_⟩
  · obtain ⟨y, hy, hcy, hm⟩ := h1 x (by omega)
    refine ⟨y % d, Nat.mod_lt _ hd, modSet_bit.2 ⟨y, hy, hcy, rfl⟩, ?_⟩
    rw [move_fold ha h (by omega) hy, Nat.mod_eq_of_lt hx] at hm; exact hm
  · obtain ⟨y', hy', hcy, rfl⟩ := modSet_bit.1 hy1
    obtain ⟨z', hz', hcz, rfl⟩ := modSet_bit.1 hz1
    have e1 := move_fold ha h (show x < n by omega) hy'
    have e2 := move_fold ha h (show x < n by omega) hz'
    rw [Nat.mod_eq_of_lt hx] at e1 e2
    rw [h2 x (by omega) y' hy' z' hz' hcy hcz (e1.trans hy2) (e2.trans hz2)]
theorem upto_one_of {p : Nat → Prop} [DecidablePred p] : ∀ q : Nat, (∀ i, i < q → ∀ j, j < q → p i → p j → i = j) → upto (fun j => if p j then (1 : Int) else 0) q = if ∃ j, j < q ∧ p j then 1 else 0
  | 0, _ => by rw [if_neg (by rintro ⟨j, h, _⟩; omega)]; rfl
  | q + 1, h => by
    have ih := upto_one_of q (fun i hi j hj => h i (by omega) j (by omega))
    rw [upto, ih]
    by_cases hq : p q
    · rw [if_pos hq, if_neg (by rintro ⟨j, hj, hp⟩; have := h j (by omega) q (by omega) hp hq; omega), if_pos ⟨q, by omega, hq⟩]; rfl
    · rw [if_neg hq]
      by_cases he : ∃ j, j < q ∧ p j
      · obtain ⟨j, hj, hp⟩ := he
        rw [if_pos ⟨j, hj, hp⟩, if_pos ⟨j, by omega, hp⟩]; rfl
      · rw [if_neg he, if_neg (by
          rintro ⟨j, hj, hp⟩
          rcases Nat.lt_or_ge j q with c | c
          · exact he ⟨j, c, hp⟩
          · rw [show j = q by omega] at hp; exact hq hp)]; rfl
theorem upto_mul_r (f : Nat → Int) (c : Int) (n : Nat) : upto (fun i => f i * c) n = upto f n * c := by
  rw [Int.mul_comm, ← upto_mul]; exact upto_congr (fun i _ => Int.mul_comm _ _)
theorem tot_mod {n b d : Nat} (hd : 1 ≤ d) (hnd : n % d = 0) (hap : ∀ y, y < n → ∀ z, z < n → b.testBit y = true → b.testBit z = true → y % d = z % d → y = z) {g : Nat → Int} (hg : ∀ k, g (k + d) = g k) : tot n b g = tot d (modSet n d b) g := by
  have hn : n = n / d * d := (Nat.div_mul_cancel (Nat.dvd_of_mod_eq_zero hnd)).symm
  have hlt : ∀ k j, k < d → j < n / d → k + j * d < n := fun k j hk hj => by
    have : (j + 1) * d ≤ n / d * d := Nat.mul_le_mul_right d hj
    rw [← hn, Nat.succ_mul] at this; omega
  have hkm : ∀ k j, k < d → (k + j * d) % d = k := fun k j hk => by rw [Nat.add_mul_mod_self_right, Nat.mod_eq_of_lt hk]
  unfold tot
  conv => lhs; rw [hn]
  rw [upto_rows]
  refine upto_congr (fun k hk => ?_)
  have e1 : upto (fun j => if b.testBit (k + j * d) = true then g (k + j * d) else 0) (n / d) = upto (fun j => (if b.testBit (k + j * d) = true then (1 : Int) else 0) * g k) (n / d) := upto_congr (fun j _ => by
    rw [per_step hg]; split <;> simp)
  rw [e1, upto_mul_r, upto_one_of (p := fun j => b.testBit (k + j * d) = true) (n / d) (fun i hi j hj h1 h2 => by
    have := hap _ (hlt k i hk hi) _ (hlt k j hk hj) h1 h2 (by rw [hkm k i hk, hkm k j hk])
    exact Nat.eq_of_mul_eq_mul_right hd (by omega))]
  have e2 : (∃ j, j < n / d ∧ b.testBit (k + j * d) = true) ↔ (modSet n d b).testBit k = true := by
    rw [modSet_bit]
    constructor
    · rintro ⟨j, hj, h1⟩; exact ⟨_, hlt k j hk hj, h1, hkm k j hk⟩
    · rintro ⟨y, hy, h1, h2⟩
      refine ⟨y / d, Nat.div_lt_div_of_lt_of_dvd (Nat.dvd_of_mod_eq_zero hnd) hy, ?_⟩
      rw [← h2, Nat.mul_comm, Nat.mod_add_div]; exact h1
  by_cases hm : (modSet n d b).testBit k = true
  · rw [if_pos (e2.2 hm), if_pos hm, Int.one_mul]
  · rw [if_neg (fun h => hm (e2.1 h)), if_neg hm, Int.zero_mul]
theorem zr_mod {n a b d s : Nat} (ha : a < 2 ^ n) (a0 : a.testBit 0 = true) (h : IsPer n a d) (ht : Tiled n a b) (hds : d % s = 0) : zr s n b ↔ zr s d (modSet n d b) := by
  have e : ∀ m, tot n b (fun k => cS s (k + m)) = tot d (modSet n d b) (fun k => cS s (k + m)) := fun m =>
    tot_mod h.1 h.2.2.1 (fun y hy z hz h1 h2 he => tile_apart ha a0 h ht hy hz h1 h2 he) (fun k => by rw [show k + d + m = k + m + d by omega, cS_add hds])
  exact ⟨fun hz m => by rw [← e m]; exact hz m, fun hz m => by rw [e m]; exact hz m⟩
theorem fold_bit0 {a d : Nat} (hd : 1 ≤ d) (a0 : a.testBit 0 = true) : (a &&& (2 ^ d - 1)).testBit 0 = true := by
  rw [Nat.testBit_and, Nat.testBit_two_pow_sub_one, a0, decide_eq_true (show 0 < d by omega)]; rfl
theorem fold_lt (a d : Nat) : a &&& (2 ^ d - 1) < 2 ^ d := by have := Nat.two_pow_pos d; have := @Nat.and_le_right a (2 ^ d - 1); omega
/-- **of two rhythms that fill the circle one has each divisor as a root** -/
theorem div_roots : ∀ n : Nat, 2 ≤ n → n ≤ 24 → ∀ a b : Nat, a < 2 ^ n → b < 2 ^ n → a.testBit 0 = true → b.testBit 0 = true → Tiled n a b → ∀ s, 2 ≤ s → n % s = 0 → zr s n a ∨ zr s n b := by
  intro n
  induction n using Nat.strongRecOn with
  | ind n ih =>
    intro h2 h24 a b ha hb a0 b0 ht s hs hns
    have side : ∀ a b, a < 2 ^ n → b < 2 ^ n → a.testBit 0 = true → b.testBit 0 = true → Tiled n a b → perB n a = true → zr s n a ∨ zr s n b := by
      intro a b ha hb a0 b0 ht hp
      obtain ⟨d, hdn, h⟩ := perB_iff.1 hp
      by_cases hds : d % s = 0
      · have hd2 : 2 ≤ d := Nat.le_trans hs (Nat.le_of_dvd h.1 (Nat.dvd_of_mod_eq_zero hds))
        rcases ih d hdn hd2 (by omega) _ _ (fold_lt a d) (modSet_lt h.1) (fold_bit0 h.1 a0) (modSet_bit.2 ⟨0, by omega, b0, Nat.zero_mod d⟩) (fold_tile ha h ht) s hs hds with hz | hz
        · exact .inl (zr_fold ha h hds hz)
        · exact .inr ((zr_mod ha a0 h ht hds).2 hz)
      · exact .inl (zr_per h24 (by omega) ha h (by omega) hns hds)
    rcases hajos h2 h24 ha hb a0 b0 ht with hp | hp
    · exact side a b ha hb a0 b0 ht hp
    · exact (side b a hb ha b0 a0 (tiled_symm ha hb ht) hp).symm
end Go.Proofs.YtkidgakjeahebaaDoor.P
namespace Go.Proofs.YtkidgakjeahebaaDoor.P
open Go.RowKit Go.Proofs.YtkidgakjeahebaaDoorW.PrintWords Go.Proofs.YtkidgakjeahebaaDoorW.PrintLast Go.Proofs.YtkidgakjeahebaaDoorW.PrintMore
attribute [local go_sem] max2_int min2_int max_two min_two max_three min_three max_four min_four   -- for this text's walks alone
set_option linter.unusedVariables false
set_option linter.unusedSimpArgs false

/-! a root by division is a root by sums -/
def tT : List (List (List Int)) := [[], [[1]], [[1], [-1]], [[1, 0], [0, 1], [-1, -1]], [[1, 0], [0, 1], [-1, 0], [0, -1]], [[1, 0, 0, 0], [0, 1, 0, 0], [0, 0, 1, 0], [0, 0, 0, 1], [-1, -1, -1, -1]], [[1, 0], [0, 1], [-1, 1], [-1, 0], [0, -1], [1, -1]], [[1, 0, 0, 0, 0, 0], [0, 1, 0, 0, 0, 0], [0, 0, 1, 0, 0, 0], [0, 0, 0, 1, 0, 0], [0, 0, 0, 0, 1, 0], [0, 0, 0, 0, 0, 1], [-1, -1, -1, -1, -1, -1]], [[1, 0, 0, 0], [0, 1, 0, 0], [0, 0, 1, 0], [0, 0, 0, 1], [-1, 0, 0, 0], [0, -1, 0, 0], [0, 0, -1, 0], [0, 0, 0, -1]], [[1, 0, 0, 0, 0, 0], [0, 1, 0, 0, 0, 0], [0, 0, 1, 0, 0, 0], [0, 0, 0, 1, 0, 0], [0, 0, 0, 0, 1, 0], [0, 0, 0, 0, 0, 1], [-1, 0, 0, -1, 0, 0], [0, -1, 0, 0, -1, 0], [0, 0, -1, 0, 0, -1]], [[1, 0, 0, 0], [0, 1, 0, 0], [0, 0, 1, 0], [0, 0, 0, 1], [-1, 1, -1, 1], [-1, 0, 0, 0], [0, -1, 0, 0], [0, 0, -1, 0], [0, 0, 0, -1], [1, -1, 1, -1]], [[1, 0, 0, 0, 0, 0, 0, 0, 0, 0], [0, 1, 0, 0, 0, 0, 0, 0, 0, 0], [0, 0, 1, 0, 0, 0, 0, 0, 0, 0], [0, 0, 0, 1, 0, 0, 0, 0, 0, 0], [0, 0, 0, 0, 1, 0, 0, 0, 0, 0], [0, 0, 0, 0, 0, 1, 0, 0, 0, 0], [0, 0, 0, 0, 0, 0, 1, 0, 0, 0], [0, 0, 0, 0, 0, 0, 0, 1, 0, 0], [0, 0, 0, 0, 0, 0, 0, 0, 1, 0], [0, 0, 0, 0, 0, 0, 0, 0, 0, 1], [-1, -1, -1, -1, -1, -1, -1, -1, -1, -1]], [[1, 0, 0, 0], [0, 1, 0, 0], [0, 0, 1, 0], [0, 0, 0, 1], [-1, 0, 1, 0], [0, -1, 0, 1], [-1, 0, 0, 0], [0, -1, 0, 0], [0, 0, -1, 0], [0, 0, 0, -1], [1, 0, -1, 0], [0, 1, 0, -1]], [[1, 0, 0, 0, 0, 0, 0, 0, 0, 0, 0, 0], [0, 1, 0, 0, 0, 0, 0, 0, 0, 0, 0, 0], [0, 0, 1, 0, 0, 0, 0, 0, 0, 0, 0, 0], [0, 0, 0, 1, 0, 0, 0, 0, 0, 0, 0, 0], [0, 0, 0, 0, 1, 0, 0, 0, 0, 0, 0, 0], [0, 0, 0, 0, 0, 1, 0, 0, 0, 0, 0, 0], [0, 0, 0, 0, 0, 0, 1, 0, 0, 0, 0, 0], [0, 0, 0, 0, 0, 0, 0, 1, 0, 0, 0, 0], [0, 0, 0, 0, 0, 0, 0, 0, 1, 0, 0, 0], [0, 0, 0, 0, 0, 0, 0, 0, 0, 1, 0, 0], [0, 0, 0, 0, 0, 0, 0, 0, 0, 0, 1, 0], [0, 0, 0, 0, 0, 0, 0, 0, 0, 0, 0, 1], [-1, -1, -1, -1, -1, -1, -1, -1, -1, -1, -1, -1]], [[1, 0, 0, 0, 0, 0], [0, 1, 0, 0, 0, 0], [0, 0, 1, 0, 0, 0], [0, 0, 0, 1, 0, 0], [0, 0, 0, 0, 1, 0], [0, 0, 0, 0, 0, 1], [-1, 1, -1, 1, -1, 1], [-1, 0, 0, 0, 0, 0], [0, -1, 0, 0, 0, 0], [0, 0, -1, 0, 0, 0], [0, 0, 0, -1, 0, 0], [0, 0, 0, 0, -1, 0], [0, 0, 0, 0, 0, -1], [1, -1, 1, -1, 1, -1]], [[1, 0, 0, 0, 0, 0, 0, 0], [0, 1, 0, 0, 0, 0, 0, 0], [0, 0, 1, 0, 0, 0, 0, 0], [0, 0, 0, 1, 0, 0, 0, 0], [0, 0, 0, 0, 1, 0, 0, 0], [0, 0, 0, 0, 0, 1, 0, 0], [0, 0, 0, 0, 0, 0, 1, 0], [0, 0, 0, 0, 0, 0, 0, 1], [-1, 1, 0, -1, 1, -1, 0, 1], [-1, 0, 1, -1, 0, 0, -1, 1], [-1, 0, 0, 0, 0, -1, 0, 0], [0, -1, 0, 0, 0, 0, -1, 0], [0, 0, -1, 0, 0, 0, 0, -1], [1, -1, 0, 0, -1, 1, 0, -1], [1, 0, -1, 1, -1, 0, 1, -1]], [[1, 0, 0, 0, 0, 0, 0, 0], [0, 1, 0, 0, 0, 0, 0, 0], [0, 0, 1, 0, 0, 0, 0, 0], [0, 0, 0, 1, 0, 0, 0, 0], [0, 0, 0, 0, 1, 0, 0, 0], [0, 0, 0, 0, 0, 1, 0, 0], [0, 0, 0, 0, 0, 0, 1, 0], [0, 0, 0, 0, 0, 0, 0, 1], [-1, 0, 0, 0, 0, 0, 0, 0], [0, -1, 0, 0, 0, 0, 0, 0], [0, 0, -1, 0, 0, 0, 0, 0], [0, 0, 0, -1, 0, 0, 0, 0], [0, 0, 0, 0, -1, 0, 0, 0], [0, 0, 0, 0, 0, -1, 0, 0], [0, 0, 0, 0, 0, 0, -1, 0], [0, 0, 0, 0, 0, 0, 0, -1]], [[1, 0, 0, 0, 0, 0, 0, 0, 0, 0, 0, 0, 0, 0, 0, 0], [0, 1, 0, 0, 0, 0, 0, 0, 0, 0, 0, 0, 0, 0, 0, 0], [0, 0, 1, 0, 0, 0, 0, 0, 0, 0, 0, 0, 0, 0, 0, 0], [0, 0, 0, 1, 0, 0, 0, 0, 0, 0, 0, 0, 0, 0, 0, 0], [0, 0, 0, 0, 1, 0, 0, 0, 0, 0, 0, 0, 0, 0, 0, 0], [0, 0, 0, 0, 0, 1, 0, 0, 0, 0, 0, 0, 0, 0, 0, 0], [0, 0, 0, 0, 0, 0, 1, 0, 0, 0, 0, 0, 0, 0, 0, 0], [0, 0, 0, 0, 0, 0, 0, 1, 0, 0, 0, 0, 0, 0, 0, 0], [0, 0, 0, 0, 0, 0, 0, 0, 1, 0, 0, 0, 0, 0, 0, 0], [0, 0, 0, 0, 0, 0, 0, 0, 0, 1, 0, 0, 0, 0, 0, 0], [0, 0, 0, 0, 0, 0, 0, 0, 0, 0, 1, 0, 0, 0, 0, 0], [0, 0, 0, 0, 0, 0, 0, 0, 0, 0, 0, 1, 0, 0, 0, 0], [0, 0, 0, 0, 0, 0, 0, 0, 0, 0, 0, 0, 1, 0, 0, 0], [0, 0, 0, 0, 0, 0, 0, 0, 0, 0, 0, 0, 0, 1, 0, 0], [0, 0, 0, 0, 0, 0, 0, 0, 0, 0, 0, 0, 0, 0, 1, 0], [0, 0, 0, 0, 0, 0, 0, 0, 0, 0, 0, 0, 0, 0, 0, 1], [-1, -1, -1, -1, -1, -1, -1, -1, -1, -1, -1, -1, -1, -1, -1, -1]], [[1, 0, 0, 0, 0, 0], [0, 1, 0, 0, 0, 0], [0, 0, 1, 0, 0, 0], [0, 0, 0, 1, 0, 0], [0, 0, 0, 0, 1, 0], [0, 0, 0, 0, 0, 1], [-1, 0, 0, 1, 0, 0], [0, -1, 0, 0, 1, 0], [0, 0, -1, 0, 0, 1], [-1, 0, 0, 0, 0, 0], [0, -1, 0, 0, 0, 0], [0, 0, -1, 0, 0, 0], [0, 0, 0, -1, 0, 0], [0, 0, 0, 0, -1, 0], [0, 0, 0, 0, 0, -1], [1, 0, 0, -1, 0, 0], [0, 1, 0, 0, -1, 0], [0, 0, 1, 0, 0, -1]], [[1, 0, 0, 0, 0, 0, 0, 0, 0, 0, 0, 0, 0, 0, 0, 0, 0, 0], [0, 1, 0, 0, 0, 0, 0, 0, 0, 0, 0, 0, 0, 0, 0, 0, 0, 0], [0, 0, 1, 0, 0, 0, 0, 0, 0, 0, 0, 0, 0, 0, 0, 0, 0, 0], [0, 0, 0, 1, 0, 0, 0, 0, 0, 0, 0, 0, 0, 0, 0, 0, 0, 0], [0, 0, 0, 0, 1, 0, 0, 0, 0, 0, 0, 0, 0, 0, 0, 0, 0, 0], [0, 0, 0, 0, 0, 1, 0, 0, 0, 0, 0, 0, 0, 0, 0, 0, 0, 0], [0, 0, 0, 0, 0, 0, 1, 0, 0, 0, 0, 0, 0, 0, 0, 0, 0, 0], [0, 0, 0, 0, 0, 0, 0, 1, 0, 0, 0, 0, 0, 0, 0, 0, 0, 0], [0, 0, 0, 0, 0, 0, 0, 0, 1, 0, 0, 0, 0, 0, 0, 0, 0, 0], [0, 0, 0, 0, 0, 0, 0, 0, 0, 1, 0, 0, 0, 0, 0, 0, 0, 0], [0, 0, 0, 0, 0, 0, 0, 0, 0, 0, 1, 0, 0, 0, 0, 0, 0, 0], [0, 0, 0, 0, 0, 0, 0, 0, 0, 0, 0, 1, 0, 0, 0, 0, 0, 0], [0, 0, 0, 0, 0, 0, 0, 0, 0, 0, 0, 0, 1, 0, 0, 0, 0, 0], [0, 0, 0, 0, 0, 0, 0, 0, 0, 0, 0, 0, 0, 1, 0, 0, 0, 0], [0, 0, 0, 0, 0, 0, 0, 0, 0, 0, 0, 0, 0, 0, 1, 0, 0, 0], [0, 0, 0, 0, 0, 0, 0, 0, 0, 0, 0, 0, 0, 0, 0, 1, 0, 0], [0, 0, 0, 0, 0, 0, 0, 0, 0, 0, 0, 0, 0, 0, 0, 0, 1, 0], [0, 0, 0, 0, 0, 0, 0, 0, 0, 0, 0, 0, 0, 0, 0, 0, 0, 1], [-1, -1, -1, -1, -1, -1, -1, -1, -1, -1, -1, -1, -1, -1, -1, -1, -1, -1]], [[1, 0, 0, 0, 0, 0, 0, 0], [0, 1, 0, 0, 0, 0, 0, 0], [0, 0, 1, 0, 0, 0, 0, 0], [0, 0, 0, 1, 0, 0, 0, 0], [0, 0, 0, 0, 1, 0, 0, 0], [0, 0, 0, 0, 0, 1, 0, 0], [0, 0, 0, 0, 0, 0, 1, 0], [0, 0, 0, 0, 0, 0, 0, 1], [-1, 0, 1, 0, -1, 0, 1, 0], [0, -1, 0, 1, 0, -1, 0, 1], [-1, 0, 0, 0, 0, 0, 0, 0], [0, -1, 0, 0, 0, 0, 0, 0], [0, 0, -1, 0, 0, 0, 0, 0], [0, 0, 0, -1, 0, 0, 0, 0], [0, 0, 0, 0, -1, 0, 0, 0], [0, 0, 0, 0, 0, -1, 0, 0], [0, 0, 0, 0, 0, 0, -1, 0], [0, 0, 0, 0, 0, 0, 0, -1], [1, 0, -1, 0, 1, 0, -1, 0], [0, 1, 0, -1, 0, 1, 0, -1]], [[1, 0, 0, 0, 0, 0, 0, 0, 0, 0, 0, 0], [0, 1, 0, 0, 0, 0, 0, 0, 0, 0, 0, 0], [0, 0, 1, 0, 0, 0, 0, 0, 0, 0, 0, 0], [0, 0, 0, 1, 0, 0, 0, 0, 0, 0, 0, 0], [0, 0, 0, 0, 1, 0, 0, 0, 0, 0, 0, 0], [0, 0, 0, 0, 0, 1, 0, 0, 0, 0, 0, 0], [0, 0, 0, 0, 0, 0, 1, 0, 0, 0, 0, 0], [0, 0, 0, 0, 0, 0, 0, 1, 0, 0, 0, 0], [0, 0, 0, 0, 0, 0, 0, 0, 1, 0, 0, 0], [0, 0, 0, 0, 0, 0, 0, 0, 0, 1, 0, 0], [0, 0, 0, 0, 0, 0, 0, 0, 0, 0, 1, 0], [0, 0, 0, 0, 0, 0, 0, 0, 0, 0, 0, 1], [-1, 1, 0, -1, 1, 0, -1, 0, 1, -1, 0, 1], [-1, 0, 1, -1, 0, 1, -1, -1, 1, 0, -1, 1], [-1, 0, 0, 0, 0, 0, 0, -1, 0, 0, 0, 0], [0, -1, 0, 0, 0, 0, 0, 0, -1, 0, 0, 0], [0, 0, -1, 0, 0, 0, 0, 0, 0, -1, 0, 0], [0, 0, 0, -1, 0, 0, 0, 0, 0, 0, -1, 0], [0, 0, 0, 0, -1, 0, 0, 0, 0, 0, 0, -1], [1, -1, 0, 1, -1, -1, 1, 0, -1, 1, 0, -1], [1, 0, -1, 1, 0, -1, 0, 1, -1, 0, 1, -1]], [[1, 0, 0, 0, 0, 0, 0, 0, 0, 0], [0, 1, 0, 0, 0, 0, 0, 0, 0, 0], [0, 0, 1, 0, 0, 0, 0, 0, 0, 0], [0, 0, 0, 1, 0, 0, 0, 0, 0, 0], [0, 0, 0, 0, 1, 0, 0, 0, 0, 0], [0, 0, 0, 0, 0, 1, 0, 0, 0, 0], [0, 0, 0, 0, 0, 0, 1, 0, 0, 0], [0, 0, 0, 0, 0, 0, 0, 1, 0, 0], [0, 0, 0, 0, 0, 0, 0, 0, 1, 0], [0, 0, 0, 0, 0, 0, 0, 0, 0, 1], [-1, 1, -1, 1, -1, 1, -1, 1, -1, 1], [-1, 0, 0, 0, 0, 0, 0, 0, 0, 0], [0, -1, 0, 0, 0, 0, 0, 0, 0, 0], [0, 0, -1, 0, 0, 0, 0, 0, 0, 0], [0, 0, 0, -1, 0, 0, 0, 0, 0, 0], [0, 0, 0, 0, -1, 0, 0, 0, 0, 0], [0, 0, 0, 0, 0, -1, 0, 0, 0, 0], [0, 0, 0, 0, 0, 0, -1, 0, 0, 0], [0, 0, 0, 0, 0, 0, 0, -1, 0, 0], [0, 0, 0, 0, 0, 0, 0, 0, -1, 0], [0, 0, 0, 0, 0, 0, 0, 0, 0, -1], [1, -1, 1, -1, 1, -1, 1, -1, 1, -1]], [[1, 0, 0, 0, 0, 0, 0, 0, 0, 0, 0, 0, 0, 0, 0, 0, 0, 0, 0, 0, 0, 0], [0, 1, 0, 0, 0, 0, 0, 0, 0, 0, 0, 0, 0, 0, 0, 0, 0, 0, 0, 0, 0, 0], [0, 0, 1, 0, 0, 0, 0, 0, 0, 0, 0, 0, 0, 0, 0, 0, 0, 0, 0, 0, 0, 0], [0, 0, 0, 1, 0, 0, 0, 0, 0, 0, 0, 0, 0, 0, 0, 0, 0, 0, 0, 0, 0, 0], [0, 0, 0, 0, 1, 0, 0, 0, 0, 0, 0, 0, 0, 0, 0, 0, 0, 0, 0, 0, 0, 0], [0, 0, 0, 0, 0, 1, 0, 0, 0, 0, 0, 0, 0, 0, 0, 0, 0, 0, 0, 0, 0, 0], [0, 0, 0, 0, 0, 0, 1, 0, 0, 0, 0, 0, 0, 0, 0, 0, 0, 0, 0, 0, 0, 0], [0, 0, 0, 0, 0, 0, 0, 1, 0, 0, 0, 0, 0, 0, 0, 0, 0, 0, 0, 0, 0, 0], [0, 0, 0, 0, 0, 0, 0, 0, 1, 0, 0, 0, 0, 0, 0, 0, 0, 0, 0, 0, 0, 0], [0, 0, 0, 0, 0, 0, 0, 0, 0, 1, 0, 0, 0, 0, 0, 0, 0, 0, 0, 0, 0, 0], [0, 0, 0, 0, 0, 0, 0, 0, 0, 0, 1, 0, 0, 0, 0, 0, 0, 0, 0, 0, 0, 0], [0, 0, 0, 0, 0, 0, 0, 0, 0, 0, 0, 1, 0, 0, 0, 0, 0, 0, 0, 0, 0, 0], [0, 0, 0, 0, 0, 0, 0, 0, 0, 0, 0, 0, 1, 0, 0, 0, 0, 0, 0, 0, 0, 0], [0, 0, 0, 0, 0, 0, 0, 0, 0, 0, 0, 0, 0, 1, 0, 0, 0, 0, 0, 0, 0, 0], [0, 0, 0, 0, 0, 0, 0, 0, 0, 0, 0, 0, 0, 0, 1, 0, 0, 0, 0, 0, 0, 0], [0, 0, 0, 0, 0, 0, 0, 0, 0, 0, 0, 0, 0, 0, 0, 1, 0, 0, 0, 0, 0, 0], [0, 0, 0, 0, 0, 0, 0, 0, 0, 0, 0, 0, 0, 0, 0, 0, 1, 0, 0, 0, 0, 0], [0, 0, 0, 0, 0, 0, 0, 0, 0, 0, 0, 0, 0, 0, 0, 0, 0, 1, 0, 0, 0, 0], [0, 0, 0, 0, 0, 0, 0, 0, 0, 0, 0, 0, 0, 0, 0, 0, 0, 0, 1, 0, 0, 0], [0, 0, 0, 0, 0, 0, 0, 0, 0, 0, 0, 0, 0, 0, 0, 0, 0, 0, 0, 1, 0, 0], [0, 0, 0, 0, 0, 0, 0, 0, 0, 0, 0, 0, 0, 0, 0, 0, 0, 0, 0, 0, 1, 0], [0, 0, 0, 0, 0, 0, 0, 0, 0, 0, 0, 0, 0, 0, 0, 0, 0, 0, 0, 0, 0, 1], [-1, -1, -1, -1, -1, -1, -1, -1, -1, -1, -1, -1, -1, -1, -1, -1, -1, -1, -1, -1, -1, -1]], [[1, 0, 0, 0, 0, 0, 0, 0], [0, 1, 0, 0, 0, 0, 0, 0], [0, 0, 1, 0, 0, 0, 0, 0], [0, 0, 0, 1, 0, 0, 0, 0], [0, 0, 0, 0, 1, 0, 0, 0], [0, 0, 0, 0, 0, 1, 0, 0], [0, 0, 0, 0, 0, 0, 1, 0], [0, 0, 0, 0, 0, 0, 0, 1], [-1, 0, 0, 0, 1, 0, 0, 0], [0, -1, 0, 0, 0, 1, 0, 0], [0, 0, -1, 0, 0, 0, 1, 0], [0, 0, 0, -1, 0, 0, 0, 1], [-1, 0, 0, 0, 0, 0, 0, 0], [0, -1, 0, 0, 0, 0, 0, 0], [0, 0, -1, 0, 0, 0, 0, 0], [0, 0, 0, -1, 0, 0, 0, 0], [0, 0, 0, 0, -1, 0, 0, 0], [0, 0, 0, 0, 0, -1, 0, 0], [0, 0, 0, 0, 0, 0, -1, 0], [0, 0, 0, 0, 0, 0, 0, -1], [1, 0, 0, 0, -1, 0, 0, 0], [0, 1, 0, 0, 0, -1, 0, 0], [0, 0, 1, 0, 0, 0, -1, 0], [0, 0, 0, 1, 0, 0, 0, -1]]]
def tS (s c k : Nat) : Int := ((tT.getD s []).getD (k % s) []).getD c 0
theorem tS_add {s q : Nat} (h : q % s = 0) (c k : Nat) : tS s c (k + q) = tS s c k := by unfold tS; rw [Nat.add_mod, h, Nat.add_zero, Nat.mod_mod]
theorem zr_tabC : ((List.range 25).all fun s => s == 0 || (List.range s).all fun o => decide (upto (fun j => (cycN s).getD j 0 * cS s (o + j)) (cycN s).length = 0) && decide (-24 ≤ cS s o) && decide (cS s o ≤ 24)) = true := by kernel_rfl
theorem zr_tabT : ((List.range 25).all fun s => s == 0 || (List.range ((cycN s).length - 1)).all fun c => ((List.range s).all fun o => decide (upto (fun j => (cycN s).getD j 0 * tS s c (o + j)) (cycN s).length = 0)) && (List.range ((cycN s).length - 1)).all fun i => decide (tS s c i = if i = c then 1 else 0)) = true := by kernel_rfl
theorem zr_tabI : ((List.range 25).all fun s => s == 0 || (List.range ((cycN s).length - 1)).all fun c => (List.range s).all fun k => decide (upto (fun m => tS s c ((s - m) % s) * cS s (k + m)) s = (s : Int) * tS s c k)) = true := by kernel_rfl
def valT (T : Nat → Int) (r : List Int) : Int := upto (fun i => r.getD i 0 * T i) r.length
theorem upto_upd {f g : Nat → Int} {i : Nat} : ∀ n : Nat, i < n → (∀ j, j ≠ i → f j = g j) → upto f n = upto g n + (f i - g i)
  | 0, h, _ => by omega
  | n + 1, h, e => by
    rw [upto, upto]
    by_cases hi : i = n
    · subst hi
      rw [upto_congr (fun j hj => e j (by omega))]; omega
    · rw [upto_upd n (by omega) e, e n (by omega)]; omega
theorem valT_set (T : Nat → Int) (r : List Int) (i : Nat) (y : Int) (h : i < r.length) : valT T (r.set i y) = valT T r + (y - r.getD i 0) * T i := by
  unfold valT
  rw [List.length_set, upto_upd (f := fun j => (r.set i y).getD j 0 * T j) (g := fun j => r.getD j 0 * T j) (i := i) r.length h (fun j hj => by
    simp only [List.getD_eq_getElem?_getD]; rw [List.getElem?_set_ne (by omega)])]
  have : (r.set i y).getD i 0 = y := by rw [List.getD_eq_getElem?_getD, List.getElem?_set_self h]; rfl
  rw [this, Int.sub_mul]
theorem wrap_cong (y : Int) : ∃ z, wrap64 y = y + 18446744073709551616 * z := ⟨-((y + 9223372036854775808) / 18446744073709551616), by unfold wrap64; omega⟩
theorem subRow_val (T : Nat → Int) (c : Int) : ∀ (g r : List Int) (o : Nat), o + g.length ≤ r.length → ∃ z, valT T (subRow c g r o) = valT T r - c * upto (fun j => g.getD j 0 * T (o + j)) g.length + 18446744073709551616 * z
  | [], r, o, h => ⟨0, by simp [subRow, upto]⟩
  | x :: xs, r, o, h => by
    simp only [List.length_cons] at h
    obtain ⟨z1, h1⟩ := wrap_cong (c * x)
    obtain ⟨z2, h2⟩ := wrap_cong (r.getD o 0 - wrap64 (c * x))
    obtain ⟨z, hz⟩ := subRow_val T c xs (r.set o (wrap64 (r.getD o 0 - wrap64 (c * x)))) (o + 1) (by rw [List.length_set]; omega)
    refine ⟨z + (z2 - z1) * T o, ?_⟩
    unfold subRow
    rw [hz, valT_set T r o _ (by omega), h2, h1, List.length_cons, upto_first]
    have e : upto (fun i => (x :: xs).getD (i + 1) 0 * T (o + (i + 1))) xs.length = upto (fun j => xs.getD j 0 * T (o + 1 + j)) xs.length := upto_congr (fun i _ => by
      rw [show o + (i + 1) = o + 1 + i by omega]; rfl)
    have e0 : (x :: xs).getD 0 0 = x := rfl
    rw [e, e0, Nat.add_zero]
    generalize upto (fun j => xs.getD j 0 * T (o + 1 + j)) xs.length = U
    generalize T o = t
    generalize r.getD o 0 = v
    have a1 : (v - (c * x + 18446744073709551616 * z1) + 18446744073709551616 * z2 - v) * t = -(c * (x * t)) + 18446744073709551616 * ((z2 - z1) * t) := by
      rw [show v - (c * x + 18446744073709551616 * z1) + 18446744073709551616 * z2 - v = -(c * x) + 18446744073709551616 * (z2 - z1) by omega, Int.add_mul, Int.neg_mul, Int.mul_assoc, Int.mul_assoc]
    rw [a1, Int.mul_add, Int.mul_add]
    omega
theorem divRun_val (T : Nat → Int) (g : List Int) (d : Nat) (hg : g.length = d + 1) (hT : ∀ o, upto (fun j => g.getD j 0 * T (o + j)) g.length = 0) : ∀ (m : Nat) (q r : List Int), m + d ≤ r.length → ∃ z, valT T (divRun g d m q r).2 = valT T r + 18446744073709551616 * z
  | 0, q, r, _ => ⟨0, by simp [divRun]⟩
  | m + 1, q, r, h => by
    obtain ⟨z1, h1⟩ := subRow_val T (r.getD (m + d) 0) g r m (by omega)
    rw [hT, Int.mul_zero, Int.sub_zero] at h1
    obtain ⟨z2, h2⟩ := divRun_val T g d hg hT m (q ++ [r.getD (m + d) 0]) (subRow (r.getD (m + d) 0) g r m) (by rw [subRow_len]; omega)
    refine ⟨z1 + z2, ?_⟩
    unfold divRun
    rw [h2, h1]; omega
theorem valT_bits (T : Nat → Int) (n a : Nat) : valT T (bitsN n a) = tot n a T := by
  unfold valT tot
  rw [bitsN_len]
  refine upto_congr (fun i hi => ?_)
  have : (bitsN n a).getD i 0 = if a.testBit i then 1 else 0 := by
    unfold bitsN
    rw [List.getD_eq_getElem?_getD, List.getElem?_map, List.getElem?_range hi]; rfl
  rw [this]
  cases a.testBit i <;> simp
theorem tab_at {P : Nat → Bool} (h : ((List.range 25).all fun s => s == 0 || P s) = true) {s : Nat} (h1 : 1 ≤ s) (h24 : s ≤ 24) : P s = true := by
  have h := List.all_eq_true.1 h s (List.mem_range.2 (by omega))
  have h0 : (s == 0) = false := beq_eq_false_iff_ne.2 (by omega)
  rw [h0, Bool.false_or] at h
  exact h
theorem cS_rec {s : Nat} (h1 : 1 ≤ s) (h24 : s ≤ 24) (o : Nat) : upto (fun j => (cycN s).getD j 0 * cS s (o + j)) (cycN s).length = 0 := by
  have h := tab_at zr_tabC h1 h24
  rw [List.all_eq_true] at h
  have h := h (o % s) (List.mem_range.2 (Nat.mod_lt _ h1))
  rw [Bool.and_eq_true, Bool.and_eq_true] at h
  refine Eq.trans (upto_congr (fun j _ => ?_)) (of_decide_eq_true h.1.1)
  rw [← cS_mod s (o + j), ← cS_mod s (o % s + j), Nat.mod_add_mod]
theorem cS_bd {s : Nat} (h1 : 1 ≤ s) (h24 : s ≤ 24) (o : Nat) : -24 ≤ cS s o ∧ cS s o ≤ 24 := by
  have h := tab_at zr_tabC h1 h24
  rw [List.all_eq_true] at h
  have h := h (o % s) (List.mem_range.2 (Nat.mod_lt _ h1))
  rw [Bool.and_eq_true, Bool.and_eq_true] at h
  have h2 := of_decide_eq_true h.1.2
  have h3 := of_decide_eq_true h.2
  rw [cS_mod] at h2 h3
  exact ⟨h2, h3⟩
theorem tS_rec {s c : Nat} (h1 : 1 ≤ s) (h24 : s ≤ 24) (hc : c < (cycN s).length - 1) (o : Nat) : upto (fun j => (cycN s).getD j 0 * tS s c (o + j)) (cycN s).length = 0 := by
  have h := tab_at zr_tabT h1 h24
  rw [List.all_eq_true] at h
  have h := h c (List.mem_range.2 hc)
  rw [Bool.and_eq_true, List.all_eq_true] at h
  refine Eq.trans (upto_congr (fun j _ => ?_)) (of_decide_eq_true (h.1 (o % s) (List.mem_range.2 (Nat.mod_lt _ h1))))
  unfold tS; rw [Nat.mod_add_mod]
theorem tS_one {s c i : Nat} (h1 : 1 ≤ s) (h24 : s ≤ 24) (hc : c < (cycN s).length - 1) (hi : i < (cycN s).length - 1) : tS s c i = if i = c then 1 else 0 := by
  have h := tab_at zr_tabT h1 h24
  rw [List.all_eq_true] at h
  have h := h c (List.mem_range.2 hc)
  rw [Bool.and_eq_true, List.all_eq_true, List.all_eq_true] at h
  exact of_decide_eq_true (h.2 i (List.mem_range.2 hi))
theorem tS_inv {s c : Nat} (h1 : 1 ≤ s) (h24 : s ≤ 24) (hc : c < (cycN s).length - 1) (k : Nat) : upto (fun m => tS s c ((s - m) % s) * cS s (k + m)) s = (s : Int) * tS s c k := by
  have h := tab_at zr_tabI h1 h24
  rw [List.all_eq_true] at h
  have h := h c (List.mem_range.2 hc)
  rw [List.all_eq_true] at h
  have e := of_decide_eq_true (h (k % s) (List.mem_range.2 (Nat.mod_lt _ h1)))
  have e2 : tS s c (k % s) = tS s c k := by unfold tS; rw [Nat.mod_mod]
  rw [e2] at e
  rw [← e]
  refine upto_congr (fun m _ => ?_)
  rw [← cS_mod s (k + m), ← cS_mod s (k % s + m), Nat.mod_add_mod]
theorem tot_bd {n a : Nat} {g : Nat → Int} (hg : ∀ k, -24 ≤ g k ∧ g k ≤ 24) : -24 * (n : Int) ≤ tot n a g ∧ tot n a g ≤ 24 * (n : Int) := by
  unfold tot
  induction n with
  | zero => simp [upto]
  | succ n ih =>
    have := hg n
    rw [upto]
    split <;> omega
theorem tot_lin {n a : Nat} (f : Nat → Nat → Int) (cf : Nat → Int) (s : Nat) : tot n a (fun k => upto (fun m => cf m * f m k) s) = upto (fun m => cf m * tot n a (f m)) s := by
  unfold tot
  have e : ∀ k, (if a.testBit k = true then upto (fun m => cf m * f m k) s else 0) = upto (fun m => if a.testBit k = true then cf m * f m k else 0) s := fun k => by
    split
    · rfl
    · exact (upto_zero0 s).symm
  simp only [e]
  rw [upto_swap]
  refine upto_congr (fun m _ => ?_)
  rw [← upto_mul]
  exact upto_congr (fun k _ => by split <;> simp)
theorem divRun_in (g : List Int) (d : Nat) : ∀ (m : Nat) (q r : List Int), InR r → InR (divRun g d m q r).2
  | 0, _, _, h => h
  | m + 1, _, _, h => divRun_in g d m _ _ (subRow_in _ _ _ _ h)
/-- **a root by division is a root by sums** -/
theorem isRt_zr {n a s : Nat} (h1 : 1 ≤ s) (hs : s ≤ n) (hn : n ≤ 24) : isRt n a s = true ↔ zr s n a := by
  obtain ⟨c1, c2, c3⟩ := cyc_len (n := s) h1 (by omega)
  have hg : cycN s = (cycN s).dropLast ++ [1] := by
    have hne : cycN s ≠ [] := fun e => by rw [e] at c1; simp at c1
    conv => lhs; rw [← List.dropLast_concat_getLast hne]
    congr 2
    rw [List.getLast_eq_getElem]
    rw [List.getD_eq_getElem?_getD, List.getElem?_eq_getElem (by omega)] at c3
    exact c3
  have hdl : (cycN s).dropLast.length = (cycN s).length - 1 := List.length_dropLast
  have hgl : (cycN s).length = (cycN s).length - 1 + 1 := by omega
  unfold isRt divQ
  simp only [bitsN_len]
  have hlen := (divRun_len (cycN s) ((cycN s).length - 1) (n - ((cycN s).length - 1)) [] (bitsN n a)).1
  rw [bitsN_len] at hlen
  have hval := fun T hT => divRun_val T (cycN s) ((cycN s).length - 1) hgl hT (n - ((cycN s).length - 1)) [] (bitsN n a) (by rw [bitsN_len]; omega)
  have hhigh := divRun_high (cycN s).dropLast ((cycN s).length - 1) hdl (n - ((cycN s).length - 1)) [] (bitsN n a) (bitsN_in n a) (by rw [bitsN_len]; omega)
  rw [← hg] at hhigh
  have hin := divRun_in (cycN s) ((cycN s).length - 1) (n - ((cycN s).length - 1)) [] (bitsN n a) (bitsN_in n a)
  generalize (divRun (cycN s) ((cycN s).length - 1) (n - ((cycN s).length - 1)) [] (bitsN n a)).2 = rr at hlen hval hhigh hin
  constructor
  · intro hz m
    rw [List.all_eq_true] at hz
    have h0 : ∀ i, rr.getD i 0 = 0 := fun i => by
      rw [List.getD_eq_getElem?_getD]
      cases e : rr[i]? with
      | none => rfl
      | some v => exact of_decide_eq_true (hz v (List.mem_of_getElem? e))
    obtain ⟨z, hv⟩ := hval (fun k => cS s (k + m)) (fun o => by
      exact Eq.trans (upto_congr (fun j _ => by rw [show o + j + m = o + m + j by omega])) (cS_rec h1 (by omega) (o + m)))
    have e0 : valT (fun k => cS s (k + m)) rr = 0 := by
      unfold valT
      refine (upto_congr (fun i _ => ?_)).trans (upto_zero0 _)
      rw [h0 i, Int.zero_mul]
    rw [e0, valT_bits] at hv
    have hb := tot_bd (n := n) (a := a) (g := fun k => cS s (k + m)) (fun k => cS_bd h1 (by omega) _)
    omega
  · intro hz
    have h0 : ∀ i, i < rr.length → rr.getD i 0 = 0 := fun i hi => by
      rcases Nat.lt_or_ge i ((cycN s).length - 1) with hc | hc
      · obtain ⟨z, hv⟩ := hval (tS s i) (tS_rec h1 (by omega) hc)
        rw [valT_bits] at hv
        have e1 : (s : Int) * tot n a (tS s i) = 0 := by
          have e : tot n a (fun k => (s : Int) * tS s i k) = (s : Int) * tot n a (tS s i) := by
            unfold tot
            rw [← upto_mul]
            exact upto_congr (fun k _ => by split <;> simp)
          rw [← e]
          have e2 : tot n a (fun k => (s : Int) * tS s i k) = tot n a (fun k => upto (fun m => tS s i ((s - m) % s) * cS s (k + m)) s) := tot_congr (fun k _ => (tS_inv h1 (by omega) hc k).symm)
          rw [e2, tot_lin (fun m k => cS s (k + m)) (fun m => tS s i ((s - m) % s)) s]
          refine (upto_congr (fun m _ => ?_)).trans (upto_zero0 s)
          rw [hz m, Int.mul_zero]
        have e3 : tot n a (tS s i) = 0 := (Int.mul_eq_zero.1 e1).resolve_left (by omega)
        have e4 : valT (tS s i) rr = rr.getD i 0 := by
          unfold valT
          rw [upto_upd (f := fun j => rr.getD j 0 * tS s i j) (g := fun j => if j = i then 0 else rr.getD j 0 * tS s i j) (i := i) rr.length hi (fun j hj => by rw [if_neg hj])]
          have e5 : upto (fun j => if j = i then 0 else rr.getD j 0 * tS s i j) rr.length = 0 := by
            refine (upto_congr (fun j hj => ?_)).trans (upto_zero0 _)
            by_cases hji : j = i
            · rw [if_pos hji]
            · rw [if_neg hji]
              rcases Nat.lt_or_ge j ((cycN s).length - 1) with hj2 | hj2
              · rw [tS_one h1 (by omega) hc hj2, if_neg hji, Int.mul_zero]
              · rw [hhigh j hj2 (by omega), Int.zero_mul]
          rw [e5, if_pos rfl, tS_one h1 (by omega) hc hc, if_pos rfl]; omega
        rw [e4, e3] at hv
        have := getD_in hin i
        omega
      · exact hhigh i hc (by omega)
    rw [List.all_eq_true]
    intro v hv
    obtain ⟨i, hi, rfl⟩ := List.mem_iff_getElem.1 hv
    have := h0 i hi
    rw [List.getD_eq_getElem?_getD, List.getElem?_eq_getElem hi] at this
    exact decide_eq_true this

end Go.Proofs.YtkidgakjeahebaaDoor.P
