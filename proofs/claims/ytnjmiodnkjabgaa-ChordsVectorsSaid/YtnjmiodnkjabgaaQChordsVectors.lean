/- A part of a proof that a law's Go function returns true for every input, laid by this session's program mp.py (which drives the kit's print). Conditions: as each theorem states them. -/
import Derived.Test.YtnjmiodnkjabgaaGDeep
import Derived.Test.YtnjmiodnkjabgaaMCirc
import Derived.Test.YtnjmiodnkjabgaaMCirc2
import Derived.Test.YtnjmiodnkjabgaaMPairVec
import Derived.Test.YtnjmiodnkjabgaaMPop
import Derived.Test.YtnjmiodnkjabgaaP0
import Derived.Test.YtnjmiodnkjabgaaPf13
import Derived.Test.YtnjmiodnkjabgaaPf14
import Derived.Test.YtnjmiodnkjabgaaPf20
import Derived.Test.YtnjmiodnkjabgaaPf24
import Derived.Test.YtnjmiodnkjabgaaPf5
import Derived.Test.YtnjmiodnkjabgaaQBase
import Derived.Test.YtnjmiodnkjabgaaQChords
import Derived.Test.YtnjmiodnkjabgaaQEqual
namespace Go.Proofs.Ytnjmiodnkjabgaa.P
open Go.RowKit Go.Proofs.YtnjmiodnkjabgaaW.PrintWords Go.Proofs.YtnjmiodnkjabgaaW.PrintLast Go.Proofs.YtnjmiodnkjabgaaW.PrintMore
attribute [local go_sem] max2_int min2_int max_two min_two max_three min_three max_four min_four   -- for this text's walks alone
set_option linter.unusedVariables false
set_option linter.unusedSimpArgs false

noncomputable def stL (n c x y : Nat) : List Int := (List.range (n / 2)).map (fun i => ((totc n c x i + rowc n c x y i : Nat) : Int))
theorem stL_length (n c x y : Nat) : (stL n c x y).length = n / 2 := by simp [stL]
theorem stL_rd {n c x y i : Nat} (hi : i < n / 2) : rd (stL n c x y) (i : Int) = ((totc n c x i + rowc n c x y i : Nat) : Int) := by
  rw [rd_nat, List.getD_eq_getElem?_getD, stL]
  simp [hi]
theorem stL_same {n c x y : Nat} (h : ¬ (c.testBit x = true ∧ c.testBit y = true)) : stL n c x (y + 1) = stL n c x y := by
  unfold stL
  refine List.map_congr_left (fun i _ => ?_)
  rw [rowc_succ, if_neg (by
    simp only [Bool.and_eq_true, not_and]
    intro h1 h2
    exact absurd ⟨h1, h2⟩ h)]
  rfl
theorem stL_set {n c x y j : Nat} (h1 : c.testBit x = true) (h2 : c.testBit y = true) (hj : distN n x y = j + 1) (hjn : j < n / 2) :
    stL n c x (y + 1) = (stL n c x y).set j ((totc n c x j + rowc n c x y j + 1 : Nat) : Int) := by
  apply List.ext_getElem?
  intro i
  rw [List.getElem?_set]
  unfold stL
  simp only [List.length_map, List.length_range, List.getElem?_map]
  by_cases hi : i < n / 2
  · rw [List.getElem?_range hi]
    simp only [Option.map_some]
    by_cases e : j = i
    · subst e
      rw [if_pos rfl, if_pos hi, rowc_succ, h1, h2, hj]
      simp
      omega
    · rw [if_neg e, rowc_succ, h1, h2, hj]
      simp [e]
  · rw [List.getElem?_eq_none (by simp; omega)]
    have : ¬ j = i := by omega
    simp [this]
theorem stL_next {n c x : Nat} : stL n c (x + 1) 0 = stL n c x x := by
  unfold stL
  refine List.map_congr_left (fun i _ => ?_)
  rw [rowc_zero]
  rfl
theorem rowc_le (n c x y i : Nat) : rowc n c x y i ≤ y := cnt_le _ _
theorem totc_le (n c : Nat) : ∀ x i, totc n c x i ≤ x * x := by
  intro x i
  have := sumTo_le (f := fun x' => rowc n c x' x' i) (c := x) x (fun j hj => by have := rowc_le n c j j i; omega)
  exact this
theorem dist_f {n x y : Nat} (hn : n ≤ 16) (hx : x < n) (hy : y < x) : sackbutref01_Distance.f (n : Int) (x : Int) (y : Int) = some (distN n x y : Int) := by
  have w1 : wrap64 ((x : Int) - (y : Int)) = ((x - y : Nat) : Int) := by rw [wrap_id (by omega) (by omega)]; omega
  have w2 : wrap64 ((y : Int) - (x : Int)) = -((x - y : Nat) : Int) := by rw [wrap_id (by omega) (by omega)]; omega
  have e1 : ((x - y : Nat) : Int) % (n : Int) = ((x - y : Nat) : Int) := Int.emod_eq_of_lt (by omega) (by omega)
  have e2 : (-((x - y : Nat) : Int)) % (n : Int) = ((n - (x - y) : Nat) : Int) := by
    rw [← Int.add_emod_right, Int.emod_eq_of_lt (by omega) (by omega)]; omega
  unfold sackbutref01_Distance.f sackbutref01_mod.f
  rw [w1, w2, if_neg (by omega), if_neg (by omega), tmod_mod (by omega) (by omega), tmod_mod (by omega) (by omega), e1, e2]
  simp only [Option.bind_some, mn_eq]
  congr 1
  unfold distN
  omega
theorem bitV_is {n a x : Nat} (hn : n ≤ 16) (ha : a < 2 ^ n) (hx : x ≤ 64) : (Go.bits .and .i64 (shr .i64 (a : Int) (x : Int)) 1 = 1) ↔ a.testBit x = true := by
  have h63 : (2 : Nat) ^ 63 = 9223372036854775808 := by decide
  have hp := pow16 hn
  exact bit1_i64 (by omega) hx
theorem nextV_w {d : Nat} (h : d ≤ 1000) : wrap64 ((d : Int) + 1) = ((d + 1 : Nat) : Int) := by rw [wrap_id (by omega) (by omega)]; omega
theorem predV_w {y : Nat} (h2 : y ≤ 100) : wrap64 (((y + 1 : Nat) : Int) - 1) = (y : Int) := by rw [wrap_id (by omega) (by omega)]; omega
theorem refVec_row {n c : Nat} {r : List Int} (hn : 2 ≤ n) (hn2 : n ≤ 16) (hc : c < 2 ^ n) (x : Nat) (hx : x < n)
    (go : Ev (fun k => sackbutref01_Vector.l0 k (n : Int) (c : Int) (stL n c (x + 1) 0) (n : Int) ((x + 1 : Nat) : Int)) r) : ∀ (m y : Nat), y + m = x →
    Ev (fun k => sackbutref01_Vector.l1 k (n : Int) (c : Int) (stL n c x y) (x : Int) (n : Int) (x : Int) (x : Int) (y : Int)) r := by
  intro m
  have hwx := nextV_w (d := x) (by omega)
  induction m with
  | zero =>
    intro y hy
    have hyx : y = x := by omega
    subst hyx
    have p1 : ¬ (y : Int) < (y : Int) := by omega
    refine Ev.succ ?_
    simp only [sackbutref01_Vector.l1, if_neg p1, hwx]
    rw [← stL_next]
    exact go
  | succ m ih =>
    intro y hy
    have hyx : y < x := by omega
    have p1 : (y : Int) < (x : Int) := by omega
    have p2 : (0 : Int) ≤ (x : Int) := by omega
    have p3 : (0 : Int) ≤ (y : Int) := by omega
    have b1 := bitV_is hn2 hc (show x ≤ 64 by omega)
    have b2 := bitV_is hn2 hc (show y ≤ 64 by omega)
    have hd := dist_f hn2 hx hyx
    obtain ⟨j, hj⟩ : ∃ j, distN n x y = j + 1 := ⟨distN n x y - 1, by unfold distN; omega⟩
    have hjn : j < n / 2 := by unfold distN at hj; omega
    have q1 : (0 : Int) ≤ (j : Int) := by omega
    have q2 : (j : Int) < ((n / 2 : Nat) : Int) := by omega
    have hlen := stL_length n c x y
    have hrd := stL_rd (c := c) (x := x) (y := y) hjn
    have t1 := totc_le n c x j
    have t2 := rowc_le n c x y j
    have t3 : x * x ≤ 16 * 16 := Nat.mul_le_mul (by omega) (by omega)
    have hnx := nextV_w (d := totc n c x j + rowc n c x y j) (by omega)
    have hwy := nextV_w (d := y) (by omega)
    have hpj := predV_w (y := j) (by omega)
    rw [hj] at hd
    have goes := ih (y + 1) (by omega)
    refine Ev.succ ?_
    simp only [sackbutref01_Vector.l1, if_pos p1, if_pos p2, if_pos p3, hwy]
    refine Ev.ite (fun e1 => ?_) (fun e1 => ?_)
    · rw [b1] at e1
      refine Ev.ite (fun e2 => ?_) (fun e2 => ?_)
      · rw [b2] at e2
        refine Ev.bind_some hd ?_
        simp only [hpj, if_pos q1, hlen, if_pos q2, Int.toNat_natCast, hrd, hnx]
        rw [stL_set e1 e2 hj hjn] at goes
        exact goes
      · rw [b2] at e2
        rw [stL_same (fun h => e2 h.2)] at goes
        exact goes
    · rw [b1] at e1
      rw [stL_same (fun h => e1 h.1)] at goes
      exact goes
theorem refVec_loop {n c : Nat} (hn : 2 ≤ n) (hn2 : n ≤ 16) (hc : c < 2 ^ n) : ∀ (m x : Nat), x + m = n →
    Ev (fun k => sackbutref01_Vector.l0 k (n : Int) (c : Int) (stL n c x 0) (n : Int) (x : Int)) (vecOf n c) := by
  intro m
  induction m with
  | zero =>
    intro x hx
    have hxn : x = n := by omega
    subst hxn
    have p1 : ¬ (x : Int) < (x : Int) := by omega
    refine Ev.succ ?_
    simp only [sackbutref01_Vector.l0, if_neg p1]
    have : stL x c x 0 = vecOf x c := by
      rw [vecOf_eq]
      unfold stL
      refine List.map_congr_left (fun i hi => ?_)
      rw [rowc_zero, Nat.add_zero, totc_vec (List.mem_range.1 hi)]
    rw [this]
    exact Ev.some _
  | succ m ih =>
    intro x hx
    have p1 : (x : Int) < (n : Int) := by omega
    refine Ev.succ ?_
    simp only [sackbutref01_Vector.l0, if_pos p1]
    have := refVec_row hn hn2 hc x (by omega) (ih (x + 1) (by omega)) x 0 (by omega)
    exact this
theorem refVector_ev {n c : Nat} (hn : 2 ≤ n) (hn2 : n ≤ 16) (hc : c < 2 ^ n) : Ev (fun k => sackbutref01_Vector.f k (n : Int) (c : Int)) (vecOf n c) := by
  have h := refVec_loop hn hn2 hc n 0 (by omega)
  have hf := half_f n (by omega)
  have e : stL n c 0 0 = List.replicate (n / 2) 0 := by
    unfold stL
    rw [List.eq_replicate_iff]
    refine ⟨by simp, fun b hb => ?_⟩
    obtain ⟨i, _, rfl⟩ := List.mem_map.1 hb
    rw [rowc_zero]; rfl
  rw [e] at h
  unfold sackbutref01_Vector.f
  simp only [hf, if_pos (show (0 : Int) ≤ ((n / 2 : Nat) : Int) by omega), Int.toNat_natCast, if_pos (show n / 2 ≤ 35184372088832 by omega)]
  exact h
theorem deepRow {l t : List Int} {c : Int} {i : Nat} {r : Bool} (hi : i ≤ 1000) (ht : t.length ≤ 1000)
    (go : Ev (fun k => sackbutref01_Deep.l0 k l (l.length : Int) ((i + 1 : Nat) : Int)) r) : ∀ (m j : Nat), j + m = t.length →
    Ev (fun k => sackbutref01_Deep.l1 k l c (l.length : Int) (i : Int) t (t.length : Int) (j : Int)) (if c ≠ 0 ∧ c ∈ t.drop j then false else r) := by
  intro m
  have hwi := nextV_w (d := i) hi
  induction m with
  | zero =>
    intro j hj
    have p1 : ¬ (j : Int) < (t.length : Int) := by omega
    have hd : t.drop j = [] := List.drop_eq_nil_of_le (by omega)
    refine Ev.succ ?_
    simp only [sackbutref01_Deep.l1, if_neg p1, hwi, hd, List.not_mem_nil, and_false, if_false]
    exact go
  | succ m ih =>
    intro j hj
    have hjt : j < t.length := by omega
    have p1 : (j : Int) < (t.length : Int) := by omega
    have p0 : (0 : Int) ≤ (j : Int) := by omega
    have hd : t.drop j = t[j] :: t.drop (j + 1) := List.drop_eq_getElem_cons hjt
    have hrd := rd_get hjt
    have hwj := nextV_w (d := j) (by omega)
    have goes := ih (j + 1) (by omega)
    refine Ev.succ ?_
    simp only [sackbutref01_Deep.l1, if_pos p1, if_pos p0, hrd, hwj]
    refine Ev.ite (fun e => ?_) (fun e => ?_)
    · refine Ev.ite (fun e0 => ?_) (fun e0 => ?_)
      · have h0 : ¬ (c ≠ 0 ∧ c ∈ t.drop j) := fun h => h.1 e0
        have h1 : ¬ (c ≠ 0 ∧ c ∈ t.drop (j + 1)) := fun h => h.1 e0
        rw [if_neg h1] at goes
        rw [if_neg h0]
        exact goes
      · rw [if_pos ⟨e0, by rw [hd, e]; exact List.mem_cons_self⟩]
        exact Ev.some _
    · have : (c ≠ 0 ∧ c ∈ t.drop j) ↔ (c ≠ 0 ∧ c ∈ t.drop (j + 1)) := by
        rw [hd, List.mem_cons]
        exact ⟨fun h => ⟨h.1, h.2.resolve_left e⟩, fun h => ⟨h.1, .inr h.2⟩⟩
      simp only [this]
      exact goes
theorem deepAll {l : List Int} (hl : l.length ≤ 1000) (hp : ∀ c ∈ l, 0 ≤ c) : ∀ (m i : Nat), i + m = l.length → ∀ s : List Int, (∀ x, x ∈ s ↔ x ∈ l.take i) →
    Ev (fun k => sackbutref01_Deep.l0 k l (l.length : Int) (i : Int)) (deepGo (l.drop i) s) := by
  intro m
  induction m with
  | zero =>
    intro i hi s hs
    have p1 : ¬ (i : Int) < (l.length : Int) := by omega
    rw [List.drop_eq_nil_of_le (by omega)]
    refine Ev.succ ?_
    simp only [sackbutref01_Deep.l0, if_neg p1, deepGo]
    exact Ev.some _
  | succ m ih =>
    intro i hi s hs
    have hil : i < l.length := by omega
    have p1 : (i : Int) < (l.length : Int) := by omega
    have p2 : (i : Int) ≤ (l.length : Int) := by omega
    have p0 : (0 : Int) ≤ (i : Int) := by omega
    have hd : l.drop i = l[i] :: l.drop (i + 1) := List.drop_eq_getElem_cons hil
    have hrd := rd_get hil
    have hc0 := hp l[i] (List.getElem_mem hil)
    have go := ih (i + 1) (by omega) (l[i] :: s) (fun x => by
      rw [List.take_succ_eq_append_getElem hil, List.mem_append, List.mem_cons, hs x]
      simp [or_comm])
    have row := deepRow (t := l.take i) (c := l[i]) (show i ≤ 1000 by omega) (by rw [List.length_take]; omega) go (l.take i).length 0 (by omega)
    refine Ev.succ ?_
    simp only [sackbutref01_Deep.l0, if_pos p1, if_pos p0, if_pos p2, Int.toNat_natCast, hrd]
    refine Ev.bind_some rfl ?_
    rw [hd]
    simp only [deepGo]
    have e : (l[i] > 0 ∧ l[i] ∈ s) ↔ (l[i] ≠ 0 ∧ l[i] ∈ (l.take i).drop 0) := by
      rw [hs, List.drop_zero]
      exact ⟨fun h => ⟨by omega, h.2⟩, fun h => ⟨by omega, h.2⟩⟩
    simp only [e]
    exact row
theorem vecOf_mem {n c : Nat} {x : Int} (h : x ∈ vecOf n c) : 0 ≤ x ∧ x ≤ (n : Int) := by
  rw [vecOf_eq] at h
  obtain ⟨i, _, rfl⟩ := List.mem_map.1 h
  have := vecAt_le n c (i + 1)
  omega
theorem ChordsVectors : sackbutlaw01_ChordsVectors.Pure := by
  intro n c _ _
  refine Ev.rounds (g := fun q => sackbutlaw01_ChordsVectors.f q n c) ?_
  unfold sackbutlaw01_ChordsVectors.f
  have hr := refValid_f n c
  have hv := valid1_f n c
  refine Ev.bind (Vector_ev n c) ?_
  by_cases h : ValidC n c
  · simp only [h, decide_true] at hr hv
    simp only [h, if_true]
    obtain ⟨N, C, rfl, rfl, h2, h16, hC⟩ := validC_nat h
    simp only [Int.toNat_natCast]
    have hlen := vecOf_length N C
    have hg : (vecOf N C).length < 1000 ∧ (∀ x ∈ vecOf N C, (Lit.int .i64 x).wf = true) := ⟨by omega, fun x hx => by
      have := vecOf_mem hx
      simp only [Lit.wf]
      have m1 : IntKind.i64.min = -9223372036854775808 := by decide
      have m2 : IntKind.i64.max = 9223372036854775807 := by decide
      rw [Bool.and_eq_true, decide_eq_true_eq, decide_eq_true_eq, m1, m2]
      omega⟩
    have f1 : Ev (fun k => chords_Deep.f k (N : Int) (C : Int)) (deepGo (vecOf N C) [], 0) := by
      unfold chords_Deep.f
      refine Ev.bind_some hv ?_
      simp only [if_true]
      refine Ev.bind (vector_ev h2 (by omega) hC) ?_
      rw [if_pos hg]
      exact Ev.some _
    have f2 : Ev (fun k => sackbutref01_Deep.f k (N : Int) (C : Int)) (deepGo (vecOf N C) []) := by
      unfold sackbutref01_Deep.f
      refine Ev.bind (refVector_ev h2 h16 hC) ?_
      have := deepAll (l := vecOf N C) (by omega) (fun x hx => (vecOf_mem hx).1) (vecOf N C).length 0 (by omega) [] (fun x => by simp)
      rw [List.drop_zero] at this
      exact this
    refine Ev.bind f1 ?_
    refine Ev.bind_some hr ?_
    simp only [if_true]
    refine Ev.bind (refVector_ev h2 h16 hC) ?_
    refine Ev.bind (Equal_ev _ _ (by omega)) ?_
    simp only [decide_true, if_true]
    refine Ev.bind f2 ?_
    simp only [beq_self_eq_true, if_true]
    refine Ev.bind_some awake_f ?_
    exact Ev.some _
  · simp only [h, decide_false] at hr hv
    simp only [h, if_false]
    have f1 : Ev (fun k => chords_Deep.f k n c) (false, 2) := by
      unfold chords_Deep.f
      refine Ev.bind_some hv ?_
      simp only [Bool.false_eq_true, if_false]
      exact Ev.some _
    refine Ev.bind f1 ?_
    refine Ev.bind_some hr ?_
    simp only [Bool.false_eq_true, if_false, List.length_nil, Int.natCast_zero, if_true]
    refine Ev.bind_some awake_f ?_
    exact Ev.some _

end Go.Proofs.Ytnjmiodnkjabgaa.P
