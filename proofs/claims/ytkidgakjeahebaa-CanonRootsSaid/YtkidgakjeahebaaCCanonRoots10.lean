/- Proved here: the Go function sackbutlaw02.CanonRoots returns true for every input (its printed form comes to true), whatever its arguments. Conditions: none beyond the row's own reach in memory. -/
import Derived.Test.YtkidgakjeahebaaRows
import Derived.WalkKit
import Derived.ProofKit
import Derived.OpenShut
import Derived.ShutString
import Derived.ChangeOld
import Derived.Below
import Derived.SizedLaws
import Derived.Test.YtkidgakjeahebaaCCanonRoots1
import Derived.Test.YtkidgakjeahebaaCCanonRoots2
import Derived.Test.YtkidgakjeahebaaCCanonRoots4
import Derived.Test.YtkidgakjeahebaaCCanonRoots5
import Derived.Test.YtkidgakjeahebaaCCanonRoots6
import Derived.Test.YtkidgakjeahebaaCCanonRoots7
import Derived.Test.YtkidgakjeahebaaCCanonRoots8
import Derived.Test.YtkidgakjeahebaaCCanonRoots9
namespace Go.Proofs.Ytkidgakjeahebaa.P
open Go.RowKit Go.Proofs.YtkidgakjeahebaaW.PrintWords Go.Proofs.YtkidgakjeahebaaW.PrintLast Go.Proofs.YtkidgakjeahebaaW.PrintMore
attribute [local go_sem] max2_int min2_int max_two min_two max_three min_three max_four min_four   -- for this text's walks alone
set_option linter.unusedVariables false
set_option linter.unusedSimpArgs false

/-! the second condition, and the partner that the conditions give, in both programs -/
theorem sec_both : (List.range' 2 23).all (fun n => allSub (divsN n) (fun rs => (okP rs 1 && loopH rs rs 1) == (secFin n rs).all (fun x => !(decide (x > 1)) || decide (x.toNat ∈ rs)))) = true := by kernel_rfl
theorem all_congr_mem {α : Type} {l : List α} {f g : α → Bool} (h : ∀ x ∈ l, f x = g x) : l.all f = l.all g := by
  induction l with
  | nil => rfl
  | cons x l ih => rw [List.all_cons, List.all_cons, h x (List.mem_cons_self ..), ih (fun y hy => h y (List.mem_cons_of_mem _ hy))]
theorem sec_eq {n a : Nat} (h2 : 2 ≤ n) (hn : n ≤ 24) : (okP (rootsN n a) 1 && loopH (rootsN n a) (rootsN n a) 1) = secB n a := by
  have h := List.all_eq_true.1 sec_both n (List.mem_range'_1.2 ⟨h2, by omega⟩)
  have h1 := allSub_filter (isRt n a) _ _ h
  rw [← rootsN_sub, beq_iff_eq] at h1
  rw [h1]
  unfold secB
  refine all_congr_mem (fun x hx => ?_)
  obtain ⟨x1, x2, x3⟩ := (sec_fin (a := a) h2 hn).2 x hx
  by_cases hx1 : x > 1
  · have : (x.toNat ∈ rootsN n a) ↔ isRt n a x.toNat = true := by
      rw [rootsN_mem]
      exact ⟨fun h => h.2.2.2, fun h => ⟨by omega, by omega, x3, h⟩⟩
    congr 1
    by_cases hr : isRt n a x.toNat = true
    · rw [hr, decide_eq_true (this.2 hr)]
    · rw [Bool.not_eq_true] at hr
      rw [hr, decide_eq_false (fun h => by rw [this.1 h] at hr; cases hr)]
  · rw [decide_eq_false hx1]; rfl
def freeG : Nat → Nat → Nat → Nat
  | 0, m, _ => m
  | f + 1, m, p => if m % p = 0 then freeG f (m / p) p else m
def freeN (n p : Nat) : Nat := freeG 10 n p
def stepN (n s : Nat) : Nat := s / prN s * freeN n (prN s)
theorem free_table : (List.range' 2 23).all (fun n => (List.range' 2 23).all (fun s => decide (n % s ≠ 0) || decide (prN s = 0) || (decide (2 ≤ prN s) && decide (prN s ≤ 24) && decide (s % prN s = 0) && decide (freeN n (prN s) % prN s ≠ 0) && decide (freeN n (prN s) ≤ 24) && decide (canon_free.f 60 (n : Int) (prN s : Int) = some (freeN n (prN s) : Int))))) = true := by kernel_rfl
theorem free_facts {n s : Nat} (h2 : 2 ≤ n) (hn : n ≤ 24) (hs : 2 ≤ s) (hs24 : s ≤ 24) (hd : n % s = 0) (hp : prN s ≠ 0) :
    2 ≤ prN s ∧ prN s ≤ 24 ∧ s % prN s = 0 ∧ freeN n (prN s) % prN s ≠ 0 ∧ freeN n (prN s) ≤ 24 ∧ canon_free.f 60 (n : Int) (prN s : Int) = some (freeN n (prN s) : Int) := by
  have h := List.all_eq_true.1 (List.all_eq_true.1 free_table n (List.mem_range'_1.2 ⟨h2, by omega⟩)) s (List.mem_range'_1.2 ⟨hs, by omega⟩)
  simp only [Bool.or_eq_true, Bool.and_eq_true, decide_eq_true_eq] at h
  rcases h with (h | h) | h
  · exact absurd hd h
  · exact absurd h hp
  · exact ⟨h.1.1.1.1.1, h.1.1.1.1.2, h.1.1.1.2, h.1.1.2, h.1.2, h.2⟩
def orMv (n b step : Nat) : Nat → Nat → Nat → Nat
  | 0, _, acc => acc
  | m + 1, i, acc => orMv n b step m (i + 1) (acc ||| moveN n b (i * step % n))
theorem orMv_lt (n b step : Nat) : ∀ (m i acc : Nat), acc < 2 ^ n → orMv n b step m i acc < 2 ^ n
  | 0, _, _, h => h
  | m + 1, i, acc, h => orMv_lt n b step m (i + 1) _ (Nat.or_lt_two_pow h (moveN_lt n b _))
def doesB (n a s : Nat) : Bool := decide (n % s = 0) && decide (prN s ≠ 0) && !isRt n a s
def buildN (n a : Nat) : Nat → Nat → Nat → Nat
  | 0, _, b => b
  | m + 1, s, b => if doesB n a s = true then buildN n a m (s + 1) (orMv n b (stepN n s) (prN s) 0 0) else buildN n a m (s + 1) b
theorem mem_numsI {l : List Nat} {s : Nat} : (s : Int) ∈ numsI l ↔ s ∈ l := by
  unfold numsI
  rw [List.mem_map]
  constructor
  · rintro ⟨x, hx, e⟩
    have : x = s := Int.ofNat_inj.1 e
    rw [← this]; exact hx
  · intro h
    exact ⟨s, h, rfl⟩
theorem mul_w {a b : Nat} (ha : a ≤ 1000) (hb : b ≤ 1000) : wrap64 ((a : Int) * (b : Int)) = ((a * b : Nat) : Int) := by
  have : a * b ≤ 1000 * 1000 := Nat.mul_le_mul ha hb
  rw [wrap_id (by have : (a : Int) * (b : Int) = ((a * b : Nat) : Int) := by push_cast; rfl
                  omega) (by have : (a : Int) * (b : Int) = ((a * b : Nat) : Int) := by push_cast; rfl
                             omega)]
  push_cast; rfl
theorem nat_w {m : Nat} (h : m ≤ 24) : wrap64 (m : Int) = (m : Int) := wrap_id (by omega) (by omega)
theorem tmod_n (a b : Nat) : Int.tmod (a : Int) (b : Int) = ((a % b : Nat) : Int) := by rw [Int.tmod_eq_emod_of_nonneg (by omega)]; simp
theorem tdiv_n (a b : Nat) : Int.tdiv (a : Int) (b : Int) = ((a / b : Nat) : Int) := by rw [Int.tdiv_eq_ediv_of_nonneg (by omega)]; simp
theorem or_w {n x y : Nat} (hn : n ≤ 24) (hx : x < 2 ^ n) (hy : y < 2 ^ n) : Go.bits .or .i64 (x : Int) (y : Int) = ((x ||| y : Nat) : Int) := by
  have hp := pow24 hn
  exact (bits_i64 x y (Nat.lt_of_lt_of_le hx (by omega)) (Nat.lt_of_lt_of_le hy (by omega))).2
theorem build_l1 {n b s p step : Nat} (h2 : 2 ≤ n) (hn : n ≤ 24) (hb : b < 2 ^ n) (hp : p ≤ 24) (hst : step ≤ 1000) (rs : List Int) (v : Int × Int) : ∀ (m i acc : Nat), i + m = p → acc < 2 ^ n →
    Ev (fun k => canon_Build.l0 k (n : Int) (n : Int) rs (orMv n b step m i acc : Int) (wrap64 ((s : Int) + 1))) v →
    Ev (fun k => canon_Build.l1 k (n : Int) (n : Int) rs (b : Int) (s : Int) (step : Int) (acc : Int) (p : Int) (i : Int)) v := by
  intro m
  induction m with
  | zero =>
    intro i acc hi ha h
    refine Ev.succ ?_
    simp only [canon_Build.l1, if_neg (show ¬ (i : Int) < (p : Int) by omega)]
    exact h
  | succ m ih =>
    intro i acc hi ha h
    refine Ev.succ ?_
    simp only [canon_Build.l1, if_pos (show (i : Int) < (p : Int) by omega), if_neg (show ¬ (n : Int) = 0 by omega), mul_w (show i ≤ 1000 by omega) hst, tmod_n, next_w (show i ≤ 1000 by omega)]
    refine Ev.bind_some (move_f hn (Nat.le_of_lt (Nat.mod_lt _ (by omega))) hb) ?_
    rw [or_w hn ha (moveN_lt n b _)]
    exact ih (i + 1) _ (by omega) (Nat.or_lt_two_pow ha (moveN_lt n b _)) h
theorem rbuild_l2 {n a b s p step : Nat} (h2 : 2 ≤ n) (hn : n ≤ 24) (hb : b < 2 ^ n) (hp : p ≤ 24) (v : Int × Int) : ∀ (m i acc : Nat), i + m = p → acc < 2 ^ n →
    Ev (fun k => sackbutref02_Build.l0 k (n : Int) (a : Int) (orMv n b step m i acc : Int) (wrap64 ((s : Int) + 1))) v →
    Ev (fun k => sackbutref02_Build.l2 k (n : Int) (a : Int) (b : Int) (s : Int) ((step % n : Nat) : Int) (acc : Int) (p : Int) (i : Int)) v := by
  intro m
  induction m with
  | zero =>
    intro i acc hi ha h
    refine Ev.succ ?_
    simp only [sackbutref02_Build.l2, if_neg (show ¬ (i : Int) < (p : Int) by omega)]
    exact h
  | succ m ih =>
    intro i acc hi ha h
    have hlt : step % n < n := Nat.mod_lt _ (by omega)
    have he : i * (step % n) % n = i * step % n := by rw [Nat.mul_mod, Nat.mod_mod, ← Nat.mul_mod]
    refine Ev.succ ?_
    simp only [sackbutref02_Build.l2, if_pos (show (i : Int) < (p : Int) by omega), if_neg (show ¬ (n : Int) = 0 by omega), mul_w (show i ≤ 1000 by omega) (show step % n ≤ 1000 by omega), tmod_n, next_w (show i ≤ 1000 by omega), he]
    refine Ev.bind_some (moved_f hn (Nat.le_of_lt (Nat.mod_lt _ (by omega))) hb) ?_
    rw [or_w hn ha (moveN_lt n b _)]
    exact ih (i + 1) _ (by omega) (Nat.or_lt_two_pow ha (moveN_lt n b _)) h
theorem rbuild_l1 {n a b s p : Nat} (h2 : 2 ≤ n) (hn : n ≤ 24) (hs : s ≤ 24) (hp2 : 2 ≤ p) (v : Int × Int) (r : Nat) (hr : r % p ≠ 0) (hr24 : r ≤ 24)
    (h : Ev (fun k => sackbutref02_Build.l2 k (n : Int) (a : Int) (b : Int) (s : Int) ((s / p * r % n : Nat) : Int) 0 (p : Int) 0) v) : ∀ (f m : Nat), m ≤ 24 → freeG f m p = r →
    Ev (fun k => sackbutref02_Build.l1 k (n : Int) (a : Int) (b : Int) (s : Int) (p : Int) (m : Int)) v := by
  have stop : Ev (fun k => sackbutref02_Build.l1 k (n : Int) (a : Int) (b : Int) (s : Int) (p : Int) (r : Int)) v := by
    have hd : s / p ≤ 24 := Nat.le_trans (Nat.div_le_self _ _) hs
    refine Ev.succ ?_
    simp only [sackbutref02_Build.l1, if_neg (show ¬ (p : Int) = 0 by omega), tmod_n, if_neg (show ¬ ((r % p : Nat) : Int) = 0 by omega), if_neg (show ¬ (n : Int) = 0 by omega), tdiv_n]
    rw [nat_w hd, mul_w (show s / p ≤ 1000 by omega) (show r ≤ 1000 by omega), tmod_n]
    exact h
  intro f
  induction f with
  | zero =>
    intro m hm e
    have : m = r := e
    rw [this]; exact stop
  | succ f ih =>
    intro m hm e
    unfold freeG at e
    by_cases hz : m % p = 0
    · rw [if_pos hz] at e
      have hd : m / p ≤ 24 := Nat.le_trans (Nat.div_le_self _ _) hm
      refine Ev.succ ?_
      simp only [sackbutref02_Build.l1, if_neg (show ¬ (p : Int) = 0 by omega), tmod_n, hz, tdiv_n, Int.natCast_zero, if_true]
      rw [nat_w hd]
      exact ih (m / p) hd e
    · rw [if_neg hz] at e
      rw [e]; exact stop
theorem build_l0 {n a : Nat} (h2 : 2 ≤ n) (hn : n ≤ 24) (ha : a < 2 ^ n) : ∀ (m s b : Nat), 2 ≤ s → s + m = n + 1 → b < 2 ^ n →
    Ev (fun k => canon_Build.l0 k (n : Int) (n : Int) (numsI (rootsN n a)) (b : Int) (s : Int)) ((buildN n a m s b : Int), 0) := by
  have hlen : (numsI (rootsN n a)).length < 1000 := by have := rootsN_len n a hn; unfold numsI; rw [List.length_map]; exact this
  intro m
  induction m with
  | zero =>
    intro s b hs hm hb
    refine Ev.succ ?_
    simp only [canon_Build.l0, if_neg (show ¬ (s : Int) ≤ (n : Int) by omega)]
    exact Ev.some _
  | succ m ih =>
    intro s b hs hm hb
    have hw := next_w (d := s) (by omega)
    have skip : doesB n a s = false → Ev (fun k => canon_Build.j2 k (n : Int) (n : Int) (numsI (rootsN n a)) (b : Int) (s : Int) true) ((buildN n a (m + 1) s b : Int), 0) := fun hf => by
      refine Ev.succ ?_
      simp only [canon_Build.j2, if_true, hw]
      unfold buildN
      rw [if_neg (by rw [hf]; decide)]
      exact ih (s + 1) b (by omega) (by omega) hb
    refine Ev.succ ?_
    simp only [canon_Build.l0, if_pos (show (s : Int) ≤ (n : Int) by omega), if_neg (show ¬ (s : Int) = 0 by omega), tmod_n]
    by_cases hd : n % s = 0
    · simp only [hd, Int.natCast_zero, if_true]
      refine Ev.bind (prime_ev hs (by omega)) ?_
      by_cases hp : prN s = 0
      · simp only [if_pos (show ((prN s : Nat) : Int) = 0 by omega)]
        exact skip (by unfold doesB; rw [decide_eq_false (show ¬ prN s ≠ 0 by omega)]; simp)
      · simp only [if_neg (show ¬ ((prN s : Nat) : Int) = 0 by omega)]
        refine Ev.bind (Contains_ev (numsI (rootsN n a)) (s : Int) (by omega)) ?_
        by_cases hr : isRt n a s = true
        · rw [decide_eq_true (mem_numsI.2 (rootsN_mem.2 ⟨hs, by omega, hd, hr⟩))]
          exact skip (by unfold doesB; rw [hr]; simp)
        · have hr' : isRt n a s = false := by simpa using hr
          rw [decide_eq_false (fun h => hr (rootsN_mem.1 (mem_numsI.1 h)).2.2.2)]
          have hdo : doesB n a s = true := by unfold doesB; rw [decide_eq_true hd, decide_eq_true hp, hr']; rfl
          obtain ⟨f1, f2, f3, f4, f5, f6⟩ := free_facts h2 hn hs (by omega) hd hp
          have hdv : s / prN s ≤ 24 := Nat.le_trans (Nat.div_le_self _ _) (by omega)
          have hst : stepN n s ≤ 1000 := by
            have : s / prN s * freeN n (prN s) ≤ 24 * 24 := Nat.mul_le_mul hdv f5
            unfold stepN; omega
          refine Ev.succ ?_
          simp only [canon_Build.j2, Bool.false_eq_true, if_false]
          refine Ev.bind (prime_ev hs (by omega)) ?_
          simp only [if_neg (show ¬ ((prN s : Nat) : Int) = 0 by omega)]
          refine Ev.bind (Ev.of (canon_free.mono (n : Int) (prN s : Int)) f6) ?_
          rw [tdiv_n, nat_w hdv, mul_w (by omega) (by omega)]
          refine build_l1 (step := stepN n s) h2 hn hb f2 hst _ _ (prN s) 0 0 (by omega) (Nat.two_pow_pos n) ?_
          rw [hw]
          unfold buildN
          rw [if_pos hdo]
          exact ih (s + 1) _ (by omega) (by omega) (orMv_lt _ _ _ _ _ _ (Nat.two_pow_pos n))
    · simp only [if_neg (show ¬ ((n % s : Nat) : Int) = 0 by omega)]
      exact skip (by unfold doesB; rw [decide_eq_false hd]; simp)
theorem rbuild_l0 {n a : Nat} (h2 : 2 ≤ n) (hn : n ≤ 24) (ha : a < 2 ^ n) : ∀ (m s b : Nat), 2 ≤ s → s + m = n + 1 → b < 2 ^ n →
    Ev (fun k => sackbutref02_Build.l0 k (n : Int) (a : Int) (b : Int) (s : Int)) ((buildN n a m s b : Int), 0) := by
  intro m
  induction m with
  | zero =>
    intro s b hs hm hb
    refine Ev.succ ?_
    simp only [sackbutref02_Build.l0, if_neg (show ¬ (s : Int) ≤ (n : Int) by omega)]
    exact Ev.some _
  | succ m ih =>
    intro s b hs hm hb
    have hw := next_w (d := s) (by omega)
    have skip : ∀ p : Int, doesB n a s = false → Ev (fun k => sackbutref02_Build.j3 k (n : Int) (a : Int) (b : Int) (s : Int) p true) ((buildN n a (m + 1) s b : Int), 0) := fun p hf => by
      refine Ev.succ ?_
      simp only [sackbutref02_Build.j3, if_true, hw]
      unfold buildN
      rw [if_neg (by rw [hf]; decide)]
      exact ih (s + 1) b (by omega) (by omega) hb
    refine Ev.succ ?_
    simp only [sackbutref02_Build.l0, if_pos (show (s : Int) ≤ (n : Int) by omega), if_neg (show ¬ (s : Int) = 0 by omega), tmod_n]
    by_cases hd : n % s = 0
    · simp only [hd, Int.natCast_zero, if_true]
      refine Ev.bind (base_ev hs (by omega)) ?_
      refine Ev.succ ?_
      simp only [sackbutref02_Build.j2]
      by_cases hp : prN s = 0
      · simp only [if_pos (show ((prN s : Nat) : Int) = 0 by omega)]
        exact skip _ (by unfold doesB; rw [decide_eq_false (show ¬ prN s ≠ 0 by omega)]; simp)
      · simp only [if_neg (show ¬ ((prN s : Nat) : Int) = 0 by omega)]
        refine Ev.bind (isRoot_ev (by omega) (by omega) hn ha) ?_
        by_cases hr : isRt n a s = true
        · rw [hr]
          exact skip _ (by unfold doesB; rw [hr]; simp)
        · have hr' : isRt n a s = false := by simpa using hr
          rw [hr']
          have hdo : doesB n a s = true := by unfold doesB; rw [decide_eq_true hd, decide_eq_true hp, hr']; rfl
          obtain ⟨f1, f2, f3, f4, f5, f6⟩ := free_facts h2 hn hs (by omega) hd hp
          refine Ev.succ ?_
          simp only [sackbutref02_Build.j3, Bool.false_eq_true, if_false]
          refine rbuild_l1 h2 hn (by omega) f1 _ (freeN n (prN s)) f4 f5 ?_ 10 n hn rfl
          refine rbuild_l2 (step := stepN n s) h2 hn hb f2 _ (prN s) 0 0 (by omega) (Nat.two_pow_pos n) ?_
          rw [hw]
          unfold buildN
          rw [if_pos hdo]
          exact ih (s + 1) _ (by omega) (by omega) (orMv_lt _ _ _ _ _ _ (Nat.two_pow_pos n))
    · simp only [if_neg (show ¬ ((n % s : Nat) : Int) = 0 by omega)]
      refine Ev.succ ?_
      simp only [sackbutref02_Build.j2, if_true]
      exact skip _ (by unfold doesB; rw [decide_eq_false hd]; simp)

end Go.Proofs.Ytkidgakjeahebaa.P
namespace Go.Proofs.Ytkidgakjeahebaa.P
open Go.RowKit Go.Proofs.YtkidgakjeahebaaW.PrintWords Go.Proofs.YtkidgakjeahebaaW.PrintLast Go.Proofs.YtkidgakjeahebaaW.PrintMore
attribute [local go_sem] max2_int min2_int max_two min_two max_three min_three max_four min_four   -- for this text's walks alone
set_option linter.unusedVariables false
set_option linter.unusedSimpArgs false

/-! slices.Equal -/
theorem Equal_loop (l0 l1 : List Int) (hlen : l0.length = l1.length) (hb : l0.length < 9223372036854775807) : ∀ (xs ys pre pre1 : List Int), l0 = pre ++ xs → l1 = pre1 ++ ys → pre.length = pre1.length →
    Ev (fun k => slices_Equal_int_int.l0 k l0 l1 (l0.length : Int) (pre.length : Int)) (decide (xs = ys)) := by
  intro xs
  induction xs with
  | nil =>
    intro ys pre pre1 h0 h1 hp
    have hy : ys = [] := by
      have := congrArg List.length h0; have := congrArg List.length h1
      simp at *
      exact List.eq_nil_of_length_eq_zero (by omega)
    subst hy
    refine Ev.succ ?_
    simp only [slices_Equal_int_int.l0, if_neg (mid_end h0)]
    simpa using Ev.some true
  | cons x xs ih =>
    intro ys pre pre1 h0 h1 hp
    cases ys with
    | nil => exfalso; have := congrArg List.length h0; have := congrArg List.length h1; simp at *; omega
    | cons y ys =>
      have r1 : rd l1 (pre.length : Int) = y := by rw [hp]; exact mid_rd h1
      have l1' : (pre.length : Int) < (l1.length : Int) := by rw [hp]; exact mid_lt h1
      refine Ev.succ ?_
      simp only [slices_Equal_int_int.l0, if_pos (mid_lt h0), if_pos (show (0 : Int) ≤ (pre.length : Int) by omega), if_pos l1', mid_rd h0, r1, mid_next h0 hb]
      refine Ev.ite (fun e => ?_) (fun e => ?_)
      · have := ih ys (pre ++ [x]) (pre1 ++ [y]) (mid_mv h0) (mid_mv h1) (by simp [hp])
        simpa [e] using this
      · simpa [e] using Ev.some false
theorem Equal_ev (l0 l1 : List Int) (hb : l0.length < 9223372036854775807) : Ev (fun k => slices_Equal_int_int.f k l0 l1) (decide (l0 = l1)) := by
  unfold slices_Equal_int_int.f
  refine Ev.ite (fun e => ?_) (fun e => ?_)
  · exact Equal_loop l0 l1 (by omega) hb l0 l1 [] [] rfl rfl rfl
  · have : l0 ≠ l1 := fun h => e (by rw [h])
    simpa [this] using Ev.some false


end Go.Proofs.Ytkidgakjeahebaa.P
namespace Go.Proofs.Ytkidgakjeahebaa.P
open Go.RowKit Go.Proofs.YtkidgakjeahebaaW.PrintWords Go.Proofs.YtkidgakjeahebaaW.PrintLast Go.Proofs.YtkidgakjeahebaaW.PrintMore
attribute [local go_sem] max2_int min2_int max_two min_two max_three min_three max_four min_four   -- for this text's walks alone
set_option linter.unusedVariables false
set_option linter.unusedSimpArgs false

theorem CanonRoots : sackbutlaw02_CanonRoots.Pure := by
  intro a0 a1 _ _
  refine Ev.rounds (g := fun k => sackbutlaw02_CanonRoots.f k a0 a1) ?_
  unfold sackbutlaw02_CanonRoots.f
  by_cases hv : ValidR a0 a1
  · obtain ⟨n, a, rfl, rfl, h2, h24, ha, _⟩ := validR_nat hv
    have hvf : canon_circle_valid.f (n : Int) [(a : Int)] = some true := by rw [valid1_f, decide_eq_true hv]
    have hdom : 2 ≤ (n : Int) ∧ (n : Int) ≤ 24 ∧ 0 ≤ (a : Int) ∧ (a : Int) < (2 : Int) ^ (n : Int).toNat := ⟨hv.1, hv.2.1, hv.2.2.1, hv.2.2.2.1⟩
    have hsec : canon_circle_second.f (n : Int) (a : Int) = some (secB n a) := by
      unfold canon_circle_second.f
      rw [if_pos hdom, Int.toNat_natCast, Int.toNat_natCast, sec_eq h2 h24]
    have hrsec : sackbutref02_Second.f (n : Int) (a : Int) = some (secB n a) := by
      unfold sackbutref02_Second.f
      rw [if_pos hdom, Int.toNat_natCast, Int.toNat_natCast]
    have hB : Ev (fun k => canon_Build.f k (n : Int) (a : Int)) (if firstB n a && secB n a then ((buildN n a (n - 1) 2 1 : Int), 0) else (0, 4)) := by
      unfold canon_Build.f
      refine Ev.bind_some hvf ?_
      simp only [if_true]
      refine Ev.bind (first_ev h2 h24 ha) ?_
      cases firstB n a with
      | false =>
        simp only [Bool.false_eq_true, if_false, Bool.false_and]
        refine Ev.succ ?_
        simp only [canon_Build.j0, if_true]
        exact Ev.some _
      | true =>
        simp only [if_true, Bool.true_and]
        refine Ev.bind_some hsec ?_
        cases secB n a with
        | false =>
          refine Ev.succ ?_
          simp only [canon_Build.j0, Bool.not_false, if_true, Bool.false_eq_true, if_false]
          exact Ev.some _
        | true =>
          refine Ev.succ ?_
          simp only [canon_Build.j0, Bool.not_true, Bool.false_eq_true, if_false, if_true]
          refine Ev.bind (roots_ev h2 h24 ha) ?_
          exact build_l0 h2 h24 ha (n - 1) 2 1 (Nat.le_refl _) (by omega) (by have := Nat.pow_le_pow_right (show 0 < 2 by decide) h2; omega)
    have hR : Ev (fun k => sackbutref02_Build.f k (n : Int) (a : Int)) (if firstB n a && secB n a then ((buildN n a (n - 1) 2 1 : Int), 0) else (0, 4)) := by
      unfold sackbutref02_Build.f
      refine Ev.bind (rfirst_ev h2 h24 ha) ?_
      cases firstB n a with
      | false =>
        simp only [Bool.false_eq_true, if_false, Bool.false_and]
        refine Ev.succ ?_
        simp only [sackbutref02_Build.j0, if_true]
        exact Ev.some _
      | true =>
        simp only [if_true, Bool.true_and]
        refine Ev.bind_some hrsec ?_
        cases secB n a with
        | false =>
          refine Ev.succ ?_
          simp only [sackbutref02_Build.j0, Bool.not_false, if_true, Bool.false_eq_true, if_false]
          exact Ev.some _
        | true =>
          refine Ev.succ ?_
          simp only [sackbutref02_Build.j0, Bool.not_true, Bool.false_eq_true, if_false, if_true]
          exact rbuild_l0 h2 h24 ha (n - 1) 2 1 (Nat.le_refl _) (by omega) (by have := Nat.pow_le_pow_right (show 0 < 2 by decide) h2; omega)
    have e1 : Ev (fun k => canon_Roots.f k (n : Int) (a : Int)) (numsI (rootsN n a), 0) := by
      unfold canon_Roots.f
      refine Ev.bind_some hvf ?_
      simp only [if_true]
      exact Ev.bind (roots_ev h2 h24 ha) (Ev.some _)
    have e2 : Ev (fun k => canon_First.f k (n : Int) (a : Int)) (firstB n a, 0) := by
      unfold canon_First.f
      refine Ev.bind_some hvf ?_
      simp only [if_true]
      exact Ev.bind (first_ev h2 h24 ha) (Ev.some _)
    have e3 : canon_Second.f (n : Int) (a : Int) = some (secB n a, 0) := by
      unfold canon_Second.f
      rw [hvf, Option.bind_some, if_pos rfl, hsec, Option.bind_some]
    refine Ev.bind e1 ?_
    refine Ev.bind e2 ?_
    refine Ev.bind_some e3 ?_
    refine Ev.bind hB ?_
    refine Ev.bind_some (rhythm_f (n : Int) (a : Int)) ?_
    rw [decide_eq_true hv]
    simp only [if_true]
    refine Ev.bind hR ?_
    refine Ev.bind (rroots_ev h2 h24 ha) ?_
    have hlen : (numsI (rootsN n a)).length < 1000 := by have := rootsN_len n a h24; unfold numsI; rw [List.length_map]; exact this
    refine Ev.bind (Equal_ev _ _ (by omega)) ?_
    simp only [decide_true, if_true]
    refine Ev.bind (rfirst_ev h2 h24 ha) ?_
    simp only [beq_self_eq_true, if_true]
    refine Ev.bind_some hrsec ?_
    simp only [beq_self_eq_true, if_true]
    exact Ev.bind awake_ev (Ev.some _)
  · have hvf : canon_circle_valid.f a0 [a1] = some false := by rw [valid1_f, decide_eq_false hv]
    have e1 : Ev (fun k => canon_Roots.f k a0 a1) ([], 2) := by
      unfold canon_Roots.f
      refine Ev.bind_some hvf ?_
      simp only [Bool.false_eq_true, if_false]
      exact Ev.some _
    have e2 : Ev (fun k => canon_First.f k a0 a1) (false, 2) := by
      unfold canon_First.f
      refine Ev.bind_some hvf ?_
      simp only [Bool.false_eq_true, if_false]
      exact Ev.some _
    have e3 : canon_Second.f a0 a1 = some (false, 2) := by
      unfold canon_Second.f
      rw [hvf, Option.bind_some, if_neg (by decide)]
    have e4 : Ev (fun k => canon_Build.f k a0 a1) (0, 2) := by
      unfold canon_Build.f
      refine Ev.bind_some hvf ?_
      simp only [Bool.false_eq_true, if_false]
      exact Ev.some _
    refine Ev.bind e1 ?_
    refine Ev.bind e2 ?_
    refine Ev.bind_some e3 ?_
    refine Ev.bind e4 ?_
    refine Ev.bind_some (rhythm_f a0 a1) ?_
    rw [decide_eq_false hv]
    simp only [Bool.false_eq_true, if_false, List.length_nil, Int.natCast_zero, if_true]
    exact Ev.bind awake_ev (Ev.some _)

end Go.Proofs.Ytkidgakjeahebaa.P
namespace Go.Proofs.Ytkidgakjeahebaa.Pure
theorem CanonRoots : Go.Proofs.Ytkidgakjeahebaa.P.sackbutlaw02_CanonRoots.Pure := Go.Proofs.Ytkidgakjeahebaa.P.CanonRoots
end Go.Proofs.Ytkidgakjeahebaa.Pure
namespace Go.Proofs.Ytkidgakjeahebaa.canonRoots
open Go.ChangeShapes Go.WideShapes Go.ChangeAt Go.RowKit
open Go.ChangeMaps (open_string shut_string)
set_option linter.unusedVariables false
theorem own : ownKnob Try.prog.godebug = none := by kernel_rfl
set_option maxRecDepth 100000 in
theorem lifted (os : Os) (started : os.Started) (H : Type) (enc : TypeId × Value → H) :
    ReturnsInHanded {} Try.checked os 7 .any (Rows.canonRootsSpec.pre6 enc Try.prog Try.f7 Rows.canonRootsRow.domain false) (Rows.canonRootsSpec.post enc Try.prog Try.f7 false true false false) := by
  refine returnsInHanded_of_change_sized (C := Try.checked) own started (by kernel_rfl) Try.func7
    (ChangeSpec.witness6 (enc := enc) (C := Try.checked) false ⟨#[], #[.int .i64 0, .int .i64 0], []⟩ 8 (by kernel_rfl) (by kernel_rfl) (by kernel_rfl) (by kernel_rfl)) ?_
  intro W base args ds gs before hval0 hW hcnd hsz0 _
  have hsz : (DataW.weightsEach Try.prog (Try.f7.params.toList ++ Rows.canonRootsSpec.plain.varTypes Try.prog) (ds ++ gs)).all (· ≤ reachBytes) = true := hsz0
  have hval : ∀ (j : Nat) t v, Try.f7.params[j]? = some t → args[j]? = some v → Value.okWide Try.prog W .any base t v := hval0
  have hW' := hW
  obtain ⟨p, q, hA0, hV, rfl, hfz, hnd⟩ := hW
  have hA : DataW.TrodAll enc Try.prog W 0 (fun _ => true) true Try.f7.params.toList args.toList ds p := hA0
  rw [Try.params7] at hA hval hsz
  obtain ⟨v0, vs0, d0, ds0, p0, q0, hargs, rfl, rfl, h0, r0⟩ := trodAll_cons hA
  obtain ⟨v1, vs1, d1, ds1, p1, q1, rfl, rfl, rfl, h1, r1⟩ := trodAll_cons r0
  obtain ⟨rfl, rfl, rfl⟩ := trodAll_nil r1
  obtain rfl : args = #[v0, v1] := by cases args; simp_all
  obtain ⟨rfl, rfl⟩ := trodVars_none hV
  obtain ⟨a0, rfl, rfl, rfl, w0⟩ := open_int Try.underlying3 (hval 0 3 v0 rfl rfl) h0
  obtain ⟨a1, rfl, rfl, rfl, w1⟩ := open_int Try.underlying3 (hval 1 3 v1 rfl rfl) h1
  clear hA0 hval0 hsz0 hsz
  refine (P.sackbutlaw02_CanonRoots.walk Pure.CanonRoots a0 a1 W w0 w1).mono fun e W' ⟨he, bel⟩ => ?_
  subst he
  exact ⟨_, rfl, _, _, _, [], _, [], hW', trodAll_mk1 (shut_bool Try.underlying4 _), (trodAll_cons_mk (shut_int Try.underlying3 w0) (trodAll_cons_mk (shut_int Try.underlying3 w1) trodAll_mk0)), rfl, bel.frame _, fun h => by cases h⟩
theorem over : Rows.canonRootsRow.holds Try.pinned (OpenSpec.ofChange Rows.canonRootsSpec) :=
  OpenClaim.holds_of_wide 7 Try.f7 rfl rfl rfl rfl rfl rfl rfl ⟨rfl, rfl, rfl, rfl, rfl⟩ rfl rfl rfl rfl rfl (by kernel_rfl) Try.func7 (by kernel_rfl)
    (of_decide_eq_true (by kernel_rfl)) (by unfold Func.isWrapper; first | (rw [if_pos (by decide +kernel)]; kernel_rfl) | (rw [if_neg (by decide +kernel)]; exact ⟨rfl, rfl⟩))
    (fun os started H enc _ => lifted os started H enc)
theorem proved : Rows.CanonRootsSaid := over
#print axioms proved
end Go.Proofs.Ytkidgakjeahebaa.canonRoots
namespace Go.Proofs.Ytkidgakjeahebaa
/-- The row, under a short name, for the claim. -/
theorem canonRoots_holds : Rows.CanonRootsSaid := canonRoots.proved
end Go.Proofs.Ytkidgakjeahebaa
