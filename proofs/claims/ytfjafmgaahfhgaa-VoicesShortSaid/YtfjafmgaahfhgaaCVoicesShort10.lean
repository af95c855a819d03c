/- Proved here: the Go function sackbutlaw06.VoicesShort returns true for every input (its printed form comes to true), whatever its arguments. Conditions: none beyond the row's own reach in memory. -/
import Derived.Deep.Matrix
import Derived.OpenShut
import Derived.Test.YtfjafmgaahfhgaaRows
import Derived.WalkKit
import Derived.ProofKit
import Derived.ShutString
import Derived.ChangeOld
import Derived.Below
import Derived.SizedLaws
import Derived.Test.YtfjafmgaahfhgaaWSized
import Derived.Test.YtfjafmgaahfhgaaCVoicesShort1
import Derived.Test.YtfjafmgaahfhgaaCVoicesShort2
import Derived.Test.YtfjafmgaahfhgaaCVoicesShort3
import Derived.Test.YtfjafmgaahfhgaaCVoicesShort4
import Derived.Test.YtfjafmgaahfhgaaCVoicesShort5
import Derived.Test.YtfjafmgaahfhgaaCVoicesShort6
import Derived.Test.YtfjafmgaahfhgaaCVoicesShort7
import Derived.Test.YtfjafmgaahfhgaaCVoicesShort8
import Derived.Test.YtfjafmgaahfhgaaCVoicesShort9
namespace Go.Proofs.Ytfjafmgaahfhgaa.P
open Go.RowKit Go.Proofs.YtfjafmgaahfhgaaW.PrintWords Go.Proofs.YtfjafmgaahfhgaaW.PrintLast Go.Proofs.YtfjafmgaahfhgaaW.PrintMore
attribute [local go_sem] max2_int min2_int max_two min_two max_three min_three max_four min_four   -- for this text's walks alone
set_option linter.unusedVariables false
set_option linter.unusedSimpArgs false

/-! ### sackbutref06_Cost: function 25 -/
def sackbutref06_Cost.f (k : Nat) (a0 : Int) (l1 : List Int) (l2 : List Int) : Option (Int) := (sackbutref06_Lead.f a0 l1 l2).bind fun t1001 => ((sackbutref06_Price.f k a0 l1 l2 t1001).bind fun t1004 => (some t1004))
theorem sackbutref06_Cost.mono : ∀ a0 a1 a2 k, LeO (sackbutref06_Cost.f k a0 a1 a2) (sackbutref06_Cost.f (k + 1) a0 a1 a2) := by
  intro a0 a1 a2 k
  unfold sackbutref06_Cost.f
  repeat' first
      | (with_reducible exact sackbutref06_Price.mono _ _ _ _ _)
      | (with_reducible exact LeO.refl _)
      | (with_reducible exact LeO.none _)
      | (with_reducible refine LeO.ite ?_ ?_)
      | (with_reducible refine LeO.bind ?_ (fun _ => ?_))
      | exact sackbutref06_Price.mono _ _ _ _ _
      | exact LeO.none _
      | refine LeO.ite ?_ ?_
      | refine LeO.bind ?_ (fun _ => ?_)
set_option maxHeartbeats 8000000 in
set_option maxRecDepth 100000 in
theorem sackbutref06_Cost.calls (k : Nat) (a0 : Int) (A1 : Option Addr) (c1 : Nat) (l1 : List Int) (A2 : Option Addr) (c2 : Nat) (l2 : List Int) (r : Int) (w : World) (hr1 : Kd.C (Kd.int .i64) w A1 l1.length l1) (hc1 : l1.length ≤ c1) (hr2 : Kd.C (Kd.int .i64) w A2 l2.length l2) (hc2 : l2.length ≤ c2) (h : sackbutref06_Cost.f k a0 l1 l2 = some r) :
    Calls Try.prog 25 #[.int .i64 a0, .slice A1 l1.length c1, .slice A2 l2.length c2] w fun e w' => e = .returned (.int .i64 r) ∧ Below w.heap.size w w' := by
  have HR1 := Aside0.mk hr1
  have HC1 := Aside0.mk hc1
  clear hr1 hc1
  have HR2 := Aside0.mk hr2
  have HC2 := Aside0.mk hc2
  clear hr2 hc2
  have HB := Aside0.mk (Below.refl w.heap.size w)
  have H : ((sackbutref06_Lead.f a0 l1 l2).bind fun t1001 => ((sackbutref06_Price.f k a0 l1 l2 t1001).bind fun t1004 => (some t1004))) = some r := h
  clear h
  replace H := Option.bind_eq_some_iff.mp H
  obtain ⟨t1001, A40, H⟩ := H
  replace H : ((sackbutref06_Price.f k a0 l1 l2 t1001).bind fun t1004 => (some t1004)) = some r := H
  have A4 := Aside0.mk A40
  clear A40
  replace H := Option.bind_eq_some_iff.mp H
  obtain ⟨t1004, A50, H⟩ := H
  replace H : (some t1004) = some r := H
  have A5 := Aside0.mk A50
  clear A50
  obtain rfl := Option.some.inj H
  go_enter Try.func25, Try.ntmps25
  go_wp2_with (first | ((with_reducible refine gate_callee (f := 51) rfl ?_); refine goesL_ (some 13) rfl rfl Try.func51 (by kernel_rfl) rfl #[.int .i64 a0, .slice A1 l1.length c1, .slice A2 l2.length c2] rfl (by (try simp only [List.map_toArray, List.map_cons, List.map_nil]); first | done | rfl | (simp only [List.length_drop, List.length_take]; rfl)) ?_; (with_reducible refine (sackbutref06_Lead.calls a0 _ _ l1 _ _ l2 t1001 _ ?side1 ?side2 ?side3 ?side4 A4.out).mono ?_); (case side1 => repeat (first | exact HR1.out | (with_reducible refine Kd.C_alloc ?_ _) | (with_reducible refine Kd.C_drewN ?_ _) | (with_reducible refine Kd.C_drew ?_))); (case side2 => exact HC1.out); (case side3 => repeat (first | exact HR2.out | (with_reducible refine Kd.C_alloc ?_ _) | (with_reducible refine Kd.C_drewN ?_ _) | (with_reducible refine Kd.C_drew ?_))); (case side4 => exact HC2.out); rintro e w6 ⟨v1002, rfl, ho0, hb⟩; refine ⟨_, rfl, ?_⟩; have n0_ := Aside0.mk (Kd.R_lower ho0 (below_size (by repeat (first | (with_reducible first | exact HB.out | apply below_alloc | apply pw_below_drewN | apply below_drew1) | exact HB.out)))); have n1_ := Aside0.mk (below_step (by repeat (first | (with_reducible first | exact HB.out | apply below_alloc | apply pw_below_drewN | apply below_drew1) | exact HB.out)) hb); clear HB; have HO1003 := n0_; have HB := n1_; clear n0_ n1_; (try clear hb); (try clear hb2); (try clear hk); (try clear hi); (try clear ho0); obtain ⟨Ao7, co7, eo7⟩ := Kd.R_slice HO1003.out; subst eo7) | ((with_reducible refine gate_callee (f := 50) rfl ?_); refine goesL_ (some 14) rfl rfl Try.func50 (by kernel_rfl) rfl #[.int .i64 a0, .slice A1 l1.length c1, .slice A2 l2.length c2, .slice Ao7 t1001.length co7] rfl (by (try simp only [List.map_toArray, List.map_cons, List.map_nil]); first | done | rfl | (simp only [List.length_drop, List.length_take]; rfl)) ?_; (with_reducible refine (sackbutref06_Price.calls k a0 _ _ l1 _ _ l2 _ _ t1001 t1004 _ ?side1 ?side2 ?side3 ?side4 ?side5 ?side6 A5.out).mono ?_); (case side1 => repeat (first | exact (Kd.C_below HR1.out HB.out) | (with_reducible refine Kd.C_alloc ?_ _) | (with_reducible refine Kd.C_drewN ?_ _) | (with_reducible refine Kd.C_drew ?_))); (case side2 => exact HC1.out); (case side3 => repeat (first | exact (Kd.C_below HR2.out HB.out) | (with_reducible refine Kd.C_alloc ?_ _) | (with_reducible refine Kd.C_drewN ?_ _) | (with_reducible refine Kd.C_drew ?_))); (case side4 => exact HC2.out); (case side5 => repeat (first | exact (Kd.R_reads' HO1003.out).2.2 | (with_reducible refine Kd.C_alloc ?_ _) | (with_reducible refine Kd.C_drewN ?_ _) | (with_reducible refine Kd.C_drew ?_))); (case side6 => exact (Kd.R_reads' HO1003.out).2.1); rintro e w8 ⟨rfl, hb⟩; refine ⟨_, rfl, ?_⟩; have n0_ := Aside0.mk (Kd.R_below (by (with_reducible repeat (first | apply Kd.R_alloc | apply Kd.R_drewN | apply Kd.R_drew)); exact HO1003.out) hb); have n1_ := Aside0.mk (below_step (by repeat (first | (with_reducible first | exact HB.out | apply below_alloc | apply pw_below_drewN | apply below_drew1) | exact HB.out)) hb); clear HO1003; clear HB; have HO1003 := n0_; have HB := n1_; clear n0_ n1_; (try clear hb); (try clear hb2); (try clear hk); (try clear hi)))
  go_ret
  exact ⟨by first | rfl | (simp [errW_none, errW_some] <;> rfl) | (simp [*, errW_none, errW_some] <;> rfl), by repeat (first | (with_reducible first | exact HB.out | apply below_alloc | apply pw_below_drewN | apply below_drew1) | exact HB.out)⟩

end Go.Proofs.Ytfjafmgaahfhgaa.P
namespace Go.Proofs.Ytfjafmgaahfhgaa.P
open Go.RowKit Go.Proofs.YtfjafmgaahfhgaaW.PrintWords Go.Proofs.YtfjafmgaahfhgaaW.PrintLast Go.Proofs.YtfjafmgaahfhgaaW.PrintMore
attribute [local go_sem] max2_int min2_int max_two min_two max_three min_three max_four min_four   -- for this text's walks alone
set_option linter.unusedVariables false
set_option linter.unusedSimpArgs false

/-! the best leading is one -/
theorem rstep_some (pr : List Nat → Int) : ∀ (L : List (List Nat)) (b : List Nat), ∃ c, L.foldl (rstep pr) (some b) = some c
  | [], b => ⟨b, rfl⟩
  | l :: L, b => by
    rw [List.foldl_cons]
    unfold rstep
    simp only
    split
    · exact rstep_some pr L l
    · exact rstep_some pr L b
theorem rfold_some (pr : List Nat → Int) {L : List (List Nat)} (h : L ≠ []) : ∃ b ∈ L, rfold pr L = some b := by
  cases L with
  | nil => exact absurd rfl h
  | cons l L =>
    obtain ⟨c, hc⟩ := rstep_some pr L l
    have e : rfold pr (l :: L) = some c := hc
    refine ⟨c, ?_, e⟩
    exact (rfold_mem pr (l :: L) none c e).elim id (fun h => by cases h)
theorem bestV_some {n : Int} {a b : List Int} (h : TwoN n a b) : ∃ l, (bestV n a b).1 = some l ∧ (bestV n a b).2 = prV n a b l ∧ l.length = a.length ∧ ∀ y ∈ l, y < a.length := by
  obtain ⟨l, hl, e⟩ := rfold_some (prV n a b) (rlead_ne (k := a.length) a.length [] (by simp))
  obtain ⟨h1, h2⟩ := best_ref n a b
  rw [h1] at e
  have := rlead_all a.length [] (by simp) (by simp) l hl
  exact ⟨l, e, h2 l e, this.1, this.2⟩
theorem refCost_ev {n : Int} {a b : List Int} (h : TwoN n a b) : Ev (fun k => sackbutref06_Cost.f k n a b) (bestV n a b).2 := by
  obtain ⟨l, e1, e2, h1, h2⟩ := bestV_some h
  have e : sackbutref06_Lead.f n a b = some (nums l) := by unfold sackbutref06_Lead.f; rw [if_pos h, e1]; rfl
  unfold sackbutref06_Cost.f
  refine Ev.bind_some e ?_
  rw [e2]
  exact Ev.bind (refPrice_ev h.1 h.2.1 (nums l) (by rw [nums_length]; omega) (fun k hk => by
    unfold nums at hk
    rw [List.mem_map] at hk
    obtain ⟨y, hy, rfl⟩ := hk
    have := h2 y hy
    have := h.2.2
    show (0 : Int) ≤ (y : Int) ∧ (y : Int) < _
    omega)) (Ev.some _)

end Go.Proofs.Ytfjafmgaahfhgaa.P
namespace Go.Proofs.Ytfjafmgaahfhgaa.P
open Go.RowKit Go.Proofs.YtfjafmgaahfhgaaW.PrintWords Go.Proofs.YtfjafmgaahfhgaaW.PrintLast Go.Proofs.YtfjafmgaahfhgaaW.PrintMore
attribute [local go_sem] max2_int min2_int max_two min_two max_three min_three max_four min_four   -- for this text's walks alone
set_option linter.unusedVariables false
set_option linter.unusedSimpArgs false

/-! a least leading without crossing: two crossing voices exchange their tones -/
theorem ds_le {n x y m c : Int} (hn : 2 ≤ n) (hm : m = (y - x) + n * c) : dsN n x y ≤ max m (-m) := by
  have h1 := Int.emod_nonneg (y - x) (show n ≠ 0 by omega)
  have h2 := Int.emod_lt_of_pos (y - x) (show 0 < n by omega)
  have h3 := Int.mul_ediv_add_emod (y - x) n
  obtain ⟨e, he⟩ : ∃ e, e = (y - x) / n + c := ⟨_, rfl⟩
  have h4 : m = (y - x) % n + n * e := by rw [he, Int.mul_add]; omega
  unfold dsN mvN
  generalize (y - x) % n = r at *
  rcases Int.lt_or_le e 0 with h | h
  · have : n * e ≤ n * (-1) := Int.mul_le_mul_of_nonneg_left (by omega) (by omega)
    rw [show n * (-1) = -n by omega] at this
    generalize n * e = u at *
    split <;> omega
  · have : 0 ≤ n * e := Int.mul_nonneg (by omega) h
    generalize n * e = u at *
    split <;> omega
theorem cross_shift {n p q am bm : Int} (h : crB n p am q bm = true) : ∃ t u : Int, u = t * n - (p - q) ∧ ((0 < u ∧ u < am - bm) ∨ (u < 0 ∧ am - bm < u)) := by
  unfold crB rtB at h
  simp only [Bool.and_eq_true, Bool.or_eq_true, decide_eq_true_eq, Bool.or_false] at h
  rcases h.2 with h | h | h | h | h
  · exact ⟨-2, _, rfl, h⟩
  · exact ⟨-1, _, rfl, h⟩
  · exact ⟨0, _, rfl, h⟩
  · exact ⟨1, _, rfl, h⟩
  · exact ⟨2, _, rfl, h⟩
theorem mv_cong (n x y : Int) : ∃ c, mvN n x y = (y - x) + n * c := by
  have h3 := Int.mul_ediv_add_emod (y - x) n
  unfold mvN
  split
  · refine ⟨-((y - x) / n) - 1, ?_⟩
    rw [Int.mul_sub, Int.mul_neg]; omega
  · refine ⟨-((y - x) / n), ?_⟩
    rw [Int.mul_neg]; omega
theorem sq_le {a m : Int} (h0 : 0 ≤ a) (h : a ≤ max m (-m)) : a * a ≤ m * m := by
  rcases Int.le_total 0 m with hm | hm
  · exact Int.mul_le_mul (by omega) (by omega) h0 hm
  · have := Int.mul_le_mul (show a ≤ -m by omega) (show a ≤ -m by omega) h0 (by omega)
    rwa [Int.neg_mul_neg] at this
theorem ds_sq (n x y : Int) : dsN n x y * dsN n x y = mvN n x y * mvN n x y := by
  unfold dsN
  generalize mvN n x y = m
  rcases Int.le_total 0 m with hm | hm
  · rw [show max m (-m) = m by omega]
  · rw [show max m (-m) = -m by omega, Int.neg_mul_neg]
/-- the exchange -/
theorem swap_num {n p q y z : Int} (hn : 2 ≤ n) (h : crB n p (mvN n p y) q (mvN n q z) = true) :
    dsN n p z + dsN n q y ≤ dsN n p y + dsN n q z ∧ dsN n p z * dsN n p z + dsN n q y * dsN n q y < dsN n p y * dsN n p y + dsN n q z * dsN n q z := by
  obtain ⟨t, u, hu, hc⟩ := cross_shift h
  obtain ⟨c1, h1⟩ := mv_cong n p y
  obtain ⟨c2, h2⟩ := mv_cong n q z
  have e1 : dsN n p z ≤ max (mvN n q z + u) (-(mvN n q z + u)) := ds_le (c := c2 + t) hn (by rw [Int.mul_add, Int.mul_comm n t]; omega)
  have e2 : dsN n q y ≤ max (mvN n p y - u) (-(mvN n p y - u)) := ds_le (c := c1 - t) hn (by rw [Int.mul_sub, Int.mul_comm n t]; omega)
  have s1 := sq_le (dsN_bd (x := p) (y := z) hn).1 e1
  have s2 := sq_le (dsN_bd (x := q) (y := y) hn).1 e2
  rw [ds_sq n p y, ds_sq n q z]
  have d1 : dsN n p y = max (mvN n p y) (-(mvN n p y)) := rfl
  have d2 : dsN n q z = max (mvN n q z) (-(mvN n q z)) := rfl
  rw [d1, d2]
  generalize mvN n p y = am at *
  generalize mvN n q z = bm at *
  have hpos : 0 < u * (am - bm - u) := by
    rcases hc with hc | hc
    · exact Int.mul_pos hc.1 (by omega)
    · exact Int.mul_pos_of_neg_of_neg hc.1 (by omega)
  refine ⟨by omega, ?_⟩
  have x1 : (bm + u) * (bm + u) = bm * bm + 2 * (u * bm) + u * u := by
    rw [Int.add_mul, Int.mul_add, Int.mul_add, Int.mul_comm bm u]; omega
  have x2 : (am - u) * (am - u) = am * am - 2 * (u * am) + u * u := by
    rw [Int.sub_mul, Int.mul_sub, Int.mul_sub, Int.mul_comm am u]; omega
  have x3 : u * (am - bm - u) = u * am - u * bm - u * u := by rw [Int.mul_sub, Int.mul_sub]
  omega
def sumF (f : Nat → Nat → Int) : List Nat → Nat → Int
  | [], _ => 0
  | y :: l, i => f i y + sumF f l (i + 1)
theorem sumF_set (f : Nat → Nat → Int) : ∀ (l : List Nat) (s i : Nat) (y : Nat) (h : i < l.length), sumF f (l.set i y) s = sumF f l s - f (s + i) l[i] + f (s + i) y
  | [], _, _, _, h => by simp at h
  | x :: l, s, 0, y, h => by simp only [List.set_cons_zero, sumF, List.getElem_cons_zero, Nat.add_zero]; omega
  | x :: l, s, i + 1, y, h => by
    simp only [List.set_cons_succ, sumF, List.getElem_cons_succ]
    rw [sumF_set f l (s + 1) i y (by simpa using h), show s + 1 + i = s + (i + 1) by omega]
    omega
theorem sumF_swap (f : Nat → Nat → Int) (l : List Nat) (i j : Nat) (hi : i < l.length) (hj : j < l.length) (hne : i ≠ j) :
    sumF f ((l.set i l[j]).set j l[i]) 0 = sumF f l 0 - f i l[i] - f j l[j] + f i l[j] + f j l[i] := by
  rw [sumF_set f _ 0 j l[i] (by simpa using hj), sumF_set f l 0 i l[j] hi]
  simp only [Nat.zero_add]
  rw [List.getElem_set_ne hne]
  omega
theorem prI_sumF (n : Int) (a b : List Int) : ∀ (l : List Nat) (i : Nat), prI n a b (nums l) i = sumF (fun i y => dsN n (toneI a i) (toneI b y)) l i
  | [], _ => rfl
  | y :: l, i => by
    show dsN n (a.getD i 0) (b.getD (y : Int).toNat 0) + prI n a b (nums l) (i + 1) = _
    rw [prI_sumF n a b l (i + 1)]; rfl
theorem min_two_keys (f g : List Nat → Int) : ∀ (L : List (List Nat)), L ≠ [] → ∃ x ∈ L, ∀ y ∈ L, f x < f y ∨ (f x = f y ∧ g x ≤ g y)
  | [], h => absurd rfl h
  | [x], _ => ⟨x, by simp, fun y hy => by simp at hy; subst hy; exact .inr ⟨rfl, Int.le_refl _⟩⟩
  | x :: z :: L, _ => by
    obtain ⟨m, hm, h⟩ := min_two_keys f g (z :: L) (by simp)
    by_cases hx : f x < f m ∨ (f x = f m ∧ g x ≤ g m)
    · refine ⟨x, by simp, fun y hy => ?_⟩
      rcases List.mem_cons.1 hy with rfl | hy
      · exact .inr ⟨rfl, Int.le_refl _⟩
      · have := h y hy; omega
    · refine ⟨m, by simp at hm ⊢; exact .inr hm, fun y hy => ?_⟩
      rcases List.mem_cons.1 hy with rfl | hy
      · omega
      · exact h y hy
/-- all leadings -/
theorem rlead_mem {k : Nat} : ∀ (r : Nat) (cur x : List Nat), cur.length + r = k → (x ∈ rlead k r cur ↔ ∃ s, x = cur ++ s ∧ s.length = r ∧ (∀ y ∈ s, y < k ∧ y ∉ cur) ∧ s.Nodup)
  | 0, cur, x, h => by
    simp only [rlead, List.mem_singleton]
    constructor
    · rintro rfl; exact ⟨[], by simp, rfl, by simp, by simp⟩
    · rintro ⟨s, rfl, hs, _⟩
      have : s = [] := List.eq_nil_of_length_eq_zero hs
      simp [this]
  | r + 1, cur, x, h => by
    simp only [rlead, List.mem_flatMap, List.mem_range]
    constructor
    · rintro ⟨y, hy, hx⟩
      split at hx
      · cases hx
      · rename_i hc
        obtain ⟨s, rfl, hs, hs2, hs3⟩ := (rlead_mem r (cur ++ [y]) x (by rw [List.length_append, List.length_singleton]; omega)).1 hx
        refine ⟨y :: s, by simp, by simp [hs], fun z hz => ?_, ?_⟩
        · rcases List.mem_cons.1 hz with rfl | hz
          · exact ⟨hy, hc⟩
          · exact ⟨(hs2 z hz).1, fun h => (hs2 z hz).2 (by simp [h])⟩
        · rw [List.nodup_cons]
          exact ⟨fun h => (hs2 y h).2 (by simp), hs3⟩
    · rintro ⟨s, rfl, hs, hs2, hs3⟩
      cases s with
      | nil => simp at hs
      | cons y s =>
        rw [List.nodup_cons] at hs3
        have hy := hs2 y (by simp)
        refine ⟨y, hy.1, ?_⟩
        rw [if_neg hy.2]
        refine (rlead_mem r (cur ++ [y]) _ (by rw [List.length_append, List.length_singleton]; omega)).2 ⟨s, by simp, by simpa using hs, fun z hz => ⟨(hs2 z (by simp [hz])).1, fun h => ?_⟩, hs3.2⟩
        rcases List.mem_append.1 h with h | h
        · exact (hs2 z (by simp [hz])).2 h
        · rw [List.mem_singleton] at h; subst h; exact hs3.1 hz
theorem all_mem {k : Nat} {x : List Nat} : x ∈ rlead k k [] ↔ x.length = k ∧ (∀ y ∈ x, y < k) ∧ x.Nodup := by
  rw [rlead_mem k [] x (by simp)]
  constructor
  · rintro ⟨s, rfl, h1, h2, h3⟩; exact ⟨h1, fun y hy => (h2 y hy).1, h3⟩
  · rintro ⟨h1, h2, h3⟩; exact ⟨x, rfl, h1, fun y hy => ⟨h2 y hy, by simp⟩, h3⟩
def LexLT (y z : List Nat) : Prop := ∃ (p : List Nat) (u v : Nat) (s t : List Nat), y = p ++ u :: s ∧ z = p ++ v :: t ∧ u < v
theorem rlead_lex {k : Nat} : ∀ (r : Nat) (cur : List Nat), cur.length + r = k → List.Pairwise LexLT (rlead k r cur)
  | 0, cur, _ => by simp [rlead]
  | r + 1, cur, h => by
    unfold rlead
    rw [List.pairwise_flatMap]
    have hl : ∀ x : Nat, (cur ++ [x]).length + r = k := fun x => by rw [List.length_append, List.length_singleton]; omega
    refine ⟨fun x hx => ?_, ?_⟩
    · split
      · exact List.Pairwise.nil
      · exact rlead_lex r (cur ++ [x]) (hl x)
    · refine List.Pairwise.imp ?_ List.pairwise_lt_range
      intro x y hxy a ha b hb
      split at ha
      · cases ha
      · split at hb
        · cases hb
        · obtain ⟨s, rfl, _⟩ := (rlead_mem r _ a (hl x)).1 ha
          obtain ⟨t, rfl, _⟩ := (rlead_mem r _ b (hl y)).1 hb
          exact ⟨cur, x, y, s, t, by simp, by simp, hxy⟩
theorem find_lex {k : Nat} {p : List Nat → Bool} {x o : List Nat} (hf : (rlead k k []).find? p = some x) (ho : o ∈ rlead k k []) (hp : p o = true) : x = o ∨ LexLT x o := by
  have hP := rlead_lex k (k := k) [] (by simp)
  obtain ⟨_, us, vs, e, hn⟩ := List.find?_eq_some_iff_append.1 hf
  rw [e] at hP ho
  rcases List.mem_append.1 ho with h | h
  · have := hn o h; rw [hp] at this; cases this
  · rcases List.mem_cons.1 h with h | h
    · exact .inl h.symm
    · rw [List.pairwise_append] at hP
      exact .inr ((List.pairwise_cons.1 hP.2.1).1 o h)

theorem rstep_min (pr : List Nat → Int) : ∀ (L : List (List Nat)) (s : Option (List Nat)) (b : List Nat), L.foldl (rstep pr) s = some b → (∀ y ∈ L, pr b ≤ pr y) ∧ ∀ c, s = some c → pr b ≤ pr c
  | [], s, b, h => ⟨fun y hy => (by cases hy), fun c hc => (by rw [List.foldl_nil] at h; rw [h] at hc; cases hc; exact Int.le_refl _)⟩
  | l :: L, s, b, h => by
    rw [List.foldl_cons] at h
    obtain ⟨h1, h2⟩ := rstep_min pr L _ b h
    unfold rstep at h2
    cases s with
    | none =>
      have h3 := h2 l rfl
      exact ⟨fun y hy => (List.mem_cons.1 hy).elim (fun e => e ▸ h3) (h1 y), fun c hc => by cases hc⟩
    | some c =>
      simp only at h2
      by_cases hlt : pr l < pr c
      · rw [if_pos hlt] at h2
        have h3 := h2 l rfl
        exact ⟨fun y hy => (List.mem_cons.1 hy).elim (fun e => e ▸ h3) (h1 y), fun d hd => by cases hd; omega⟩
      · rw [if_neg hlt] at h2
        have h3 := h2 c rfl
        exact ⟨fun y hy => (List.mem_cons.1 hy).elim (fun e => by rw [e]; omega) (h1 y), fun d hd => by cases hd; exact h3⟩
theorem bestV_min {n : Int} {a b : List Int} (h : TwoN n a b) : ∃ l ∈ rlead a.length a.length [], (bestV n a b).2 = prV n a b l ∧ ∀ y ∈ rlead a.length a.length [], prV n a b l ≤ prV n a b y := by
  obtain ⟨l, hl, e⟩ := rfold_some (prV n a b) (rlead_ne (k := a.length) a.length [] (by simp))
  obtain ⟨h1, h2⟩ := best_ref n a b
  have e2 := e
  rw [h1] at e
  exact ⟨l, hl, h2 l e, (rstep_min (prV n a b) _ none l e2).1⟩
/-- a leading with the least price and no crossing there is -/
theorem calm_exists {n : Int} {a b : List Int} (h : TwoN n a b) : ∃ x ∈ rlead a.length a.length [], prV n a b x = (bestV n a b).2 ∧ ¬ CrossP n a b (nums x) := by
  obtain ⟨l, hl, e, hmin⟩ := bestV_min h
  obtain ⟨x, hx, hm⟩ := min_two_keys (prV n a b) (fun x => sumF (fun i y => dsN n (toneI a i) (toneI b y) * dsN n (toneI a i) (toneI b y)) x 0) _ (rlead_ne (k := a.length) a.length [] (by simp))
  refine ⟨x, hx, ?_, ?_⟩
  · have h1 := hm l hl
    have h2 := hmin x hx
    omega
  · rintro ⟨i, hi, j, hj, hc⟩
    obtain ⟨x1, x2, x3⟩ := all_mem.1 hx
    have hi' : i < x.length := by omega
    have hj' : j < x.length := by omega
    have hne : i ≠ j := by rintro rfl; rw [crF_self] at hc; cases hc
    have ei : ∀ i (hi : i < x.length), (toneI (nums x) i).toNat = x[i] := fun i hi => by
      unfold toneI nums
      rw [List.getD_eq_getElem?_getD, List.getElem?_map, List.getElem?_eq_getElem hi]
      rfl
    unfold crF mvAt at hc
    rw [ei i hi', ei j hj'] at hc
    obtain ⟨s1, s2⟩ := swap_num h.1.1 hc
    have hp := List.set_set_perm hi' hj'
    have hs := hm ((x.set i x[j]).set j x[i]) (all_mem.2 ⟨by rw [hp.length_eq]; exact x1, fun y hy => x2 y (hp.mem_iff.1 hy), hp.nodup_iff.2 x3⟩)
    unfold prV at hs
    rw [prI_sumF, prI_sumF, sumF_swap _ x i j hi' hj' hne, sumF_swap _ x i j hi' hj' hne] at hs
    omega

end Go.Proofs.Ytfjafmgaahfhgaa.P
namespace Go.Proofs.Ytfjafmgaahfhgaa.P
open Go.RowKit Go.Proofs.YtfjafmgaahfhgaaW.PrintWords Go.Proofs.YtfjafmgaahfhgaaW.PrintLast Go.Proofs.YtfjafmgaahfhgaaW.PrintMore
attribute [local go_sem] max2_int min2_int max_two min_two max_three min_three max_four min_four   -- for this text's walks alone
set_option linter.unusedVariables false
set_option linter.unusedSimpArgs false

/-! the cost is the least sum over the orders of the other voicing's tones -/
def sumZ (n : Int) : List Int → List Int → Int
  | x :: a, y :: c => dsN n x y + sumZ n a c
  | _, _ => 0
theorem perm_lift {α β : Type} (f : α → β) {c d : List β} (h : c.Perm d) : ∀ l : List α, d = l.map f → ∃ x : List α, x.Perm l ∧ c = x.map f := by
  induction h with
  | nil => intro l hl; exact ⟨[], (by cases l with | nil => exact List.Perm.nil | cons _ _ => cases hl), rfl⟩
  | cons x h ih =>
    intro l hl
    cases l with
    | nil => cases hl
    | cons y l =>
      rw [List.map_cons] at hl
      injection hl with h1 h2
      obtain ⟨z, hz, e⟩ := ih l h2
      exact ⟨y :: z, hz.cons y, by rw [List.map_cons, ← e, h1]⟩
  | swap x y t =>
    intro l hl
    match l, hl with
    | u :: v :: l, hl =>
      rw [List.map_cons, List.map_cons] at hl
      injection hl with h1 h2
      injection h2 with h2 h3
      exact ⟨v :: u :: l, List.Perm.swap u v l, by rw [List.map_cons, List.map_cons, h1, h2, h3]⟩
  | trans h1 h2 ih1 ih2 =>
    intro l hl
    obtain ⟨x, hx, e⟩ := ih2 l hl
    obtain ⟨y, hy, e2⟩ := ih1 x e
    exact ⟨y, hy.trans hx, e2⟩
def sumP (n : Int) (p : List (Int × Int)) : Int := (p.map fun q => dsN n q.1 q.2).sum
theorem sumZ_pairs (n : Int) : ∀ p : List (Int × Int), sumZ n (p.map Prod.fst) (p.map Prod.snd) = sumP n p
  | [] => rfl
  | q :: p => by
    unfold sumP
    rw [List.map_cons, List.map_cons, List.map_cons, List.sum_cons, sumZ, sumZ_pairs n p]; rfl
theorem zip_pairs : ∀ (a c : List Int), a.length = c.length → (a.zip c).map Prod.fst = a ∧ (a.zip c).map Prod.snd = c
  | [], [], _ => ⟨rfl, rfl⟩
  | x :: a, y :: c, h => by
    obtain ⟨h1, h2⟩ := zip_pairs a c (by simpa using h)
    rw [List.zip_cons_cons, List.map_cons, List.map_cons, h1, h2]
    exact ⟨rfl, rfl⟩
theorem sum_perm9 {l l' : List Int} (h : l.Perm l') : l.sum = l'.sum := by
  induction h with
  | nil => rfl
  | cons x _ ih => rw [List.sum_cons, List.sum_cons, ih]
  | swap x y l => simp only [List.sum_cons]; omega
  | trans _ _ ih1 ih2 => exact ih1.trans ih2
theorem sumP_perm (n : Int) {p q : List (Int × Int)} (h : p.Perm q) : sumP n p = sumP n q := by
  have h2 := sum_perm9 (h.map (fun q => dsN n q.1 q.2))
  unfold sumP
  exact h2
/-- the first tones in another order -/
theorem sumZ_move {n : Int} {a a' c : List Int} (h : a'.Perm a) (hl : a.length = c.length) : ∃ c', c'.Perm c ∧ sumZ n a' c' = sumZ n a c := by
  obtain ⟨e1, e2⟩ := zip_pairs a c hl
  obtain ⟨p, hp, e⟩ := perm_lift Prod.fst h (a.zip c) e1.symm
  refine ⟨p.map Prod.snd, ?_, ?_⟩
  · have := hp.map Prod.snd
    rwa [e2] at this
  · rw [e, sumZ_pairs, sumP_perm n hp, ← sumZ_pairs, e1, e2]
theorem ds_symm {n x y : Int} (hn : 2 ≤ n) : dsN n x y = dsN n y x := by
  have h : ∀ x y : Int, dsN n x y ≤ dsN n y x := fun x y => by
    obtain ⟨c, hc⟩ := mv_cong n y x
    have := ds_le (n := n) (x := x) (y := y) (m := -(mvN n y x)) (c := -c) hn (by rw [Int.mul_neg]; omega)
    have e : dsN n y x = max (mvN n y x) (-(mvN n y x)) := rfl
    omega
  exact Int.le_antisymm (h x y) (h y x)
theorem sumZ_symm {n : Int} (hn : 2 ≤ n) : ∀ a c : List Int, sumZ n a c = sumZ n c a
  | [], [] => rfl
  | [], _ :: _ => rfl
  | _ :: _, [] => rfl
  | x :: a, y :: c => by unfold sumZ; rw [ds_symm hn, sumZ_symm hn a c]
theorem ds_tri {n x y z : Int} (hn : 2 ≤ n) : dsN n x z ≤ dsN n x y + dsN n y z := by
  obtain ⟨c1, h1⟩ := mv_cong n x y
  obtain ⟨c2, h2⟩ := mv_cong n y z
  have := ds_le (n := n) (x := x) (y := z) (m := mvN n x y + mvN n y z) (c := c1 + c2) hn (by rw [Int.mul_add]; omega)
  have e1 : dsN n x y = max (mvN n x y) (-(mvN n x y)) := rfl
  have e2 : dsN n y z = max (mvN n y z) (-(mvN n y z)) := rfl
  omega
theorem sumZ_tri {n : Int} (hn : 2 ≤ n) : ∀ a b c : List Int, a.length = b.length → b.length = c.length → sumZ n a c ≤ sumZ n a b + sumZ n b c
  | [], [], [], _, _ => by simp [sumZ]
  | x :: a, y :: b, z :: c, h1, h2 => by
    have := sumZ_tri hn a b c (by simpa using h1) (by simpa using h2)
    have := ds_tri (x := x) (y := y) (z := z) hn
    unfold sumZ
    omega
theorem sumZ_nonneg {n : Int} (hn : 2 ≤ n) : ∀ a c : List Int, 0 ≤ sumZ n a c
  | [], [] => Int.le_refl _
  | [], _ :: _ => Int.le_refl _
  | _ :: _, [] => Int.le_refl _
  | x :: a, y :: c => by
    have := sumZ_nonneg hn a c
    have := (dsN_bd (x := x) (y := y) hn).1
    unfold sumZ; omega
theorem ds_self {n x : Int} (hn : 2 ≤ n) : dsN n x x = 0 := by
  have := ds_le (n := n) (x := x) (y := x) (m := 0) (c := 0) hn (by simp)
  have := (dsN_bd (x := x) (y := x) hn).1
  omega
theorem ds_zero {n x y : Int} (hn : 2 ≤ n) (hx : 0 ≤ x ∧ x < n) (hy : 0 ≤ y ∧ y < n) (h : dsN n x y = 0) : x = y := by
  obtain ⟨c, hc⟩ := mv_cong n x y
  have e : dsN n x y = max (mvN n x y) (-(mvN n x y)) := rfl
  have h0 : mvN n x y = 0 := by omega
  rw [h0] at hc
  rcases Int.lt_trichotomy c 0 with h | h | h
  · have := Int.mul_le_mul_of_nonneg_left (show c ≤ -1 by omega) (show 0 ≤ n by omega)
    rw [Int.mul_neg, Int.mul_one] at this; omega
  · rw [h, Int.mul_zero] at hc; omega
  · have := Int.mul_le_mul_of_nonneg_left (show 1 ≤ c by omega) (show 0 ≤ n by omega)
    rw [Int.mul_one] at this; omega
theorem sumZ_self {n : Int} (hn : 2 ≤ n) : ∀ a : List Int, sumZ n a a = 0
  | [] => rfl
  | x :: a => by unfold sumZ; rw [ds_self hn, sumZ_self hn a]; rfl
theorem sumZ_zero {n : Int} (hn : 2 ≤ n) : ∀ a c : List Int, a.length = c.length → (∀ x ∈ a, 0 ≤ x ∧ x < n) → (∀ x ∈ c, 0 ≤ x ∧ x < n) → sumZ n a c = 0 → a = c
  | [], [], _, _, _, _ => rfl
  | x :: a, y :: c, hl, ha, hc, h => by
    unfold sumZ at h
    have h1 := sumZ_nonneg hn a c
    have h2 := (dsN_bd (x := x) (y := y) hn).1
    rw [ds_zero hn (ha x (by simp)) (hc y (by simp)) (by omega), sumZ_zero hn a c (by simpa using hl) (fun z hz => ha z (by simp [hz])) (fun z hz => hc z (by simp [hz])) (by omega)]
/-- a leading is an order of the other tones -/
theorem sumF_sumZ (n : Int) (b : List Int) : ∀ (a : List Int) (x : List Nat) (F : Nat → Int) (s : Nat), a.length = x.length → (∀ i, i < a.length → F (s + i) = a.getD i 0) → sumF (fun i y => dsN n (F i) (toneI b y)) x s = sumZ n a (x.map (toneI b))
  | [], [], _, _, _, _ => rfl
  | z :: a, y :: x, F, s, h, hF => by
    rw [sumF, List.map_cons, sumZ, sumF_sumZ n b a x F (s + 1) (by simpa using h) (fun i hi => by rw [show s + 1 + i = s + (i + 1) by omega, hF (i + 1) (by simpa using hi)]; rfl), show F s = z from hF 0 (by simp)]
theorem prV_sumZ {n : Int} {a b : List Int} {x : List Nat} (h : a.length = x.length) : prV n a b x = sumZ n a (x.map (toneI b)) := by
  unfold prV
  rw [prI_sumF]
  exact sumF_sumZ n b a x (toneI a) 0 h (fun i _ => by rw [Nat.zero_add]; rfl)
theorem range_tones (b : List Int) : (List.range b.length).map (toneI b) = b := by
  refine List.ext_getElem (by simp) (fun i h1 h2 => ?_)
  rw [List.getElem_map, List.getElem_range]
  unfold toneI
  rw [List.getD_eq_getElem?_getD, List.getElem?_eq_getElem h2]; rfl
theorem perm_range {k : Nat} {x : List Nat} (h : x ∈ rlead k k []) : x.Perm (List.range k) := by
  obtain ⟨h1, h2, h3⟩ := all_mem.1 h
  refine (List.perm_ext_iff_of_nodup h3 List.nodup_range).2 (fun y => ⟨fun hy => List.mem_range.2 (h2 y hy), fun hy => ?_⟩)
  rcases Classical.em (y ∈ x) with hm | hm
  · exact hm
  · have := len_le_of_sub (y :: x) (List.range k) (List.nodup_cons.2 ⟨hm, h3⟩) (fun c hc => by
      rcases List.mem_cons.1 hc with rfl | hc
      · exact hy
      · exact List.mem_range.2 (h2 c hc))
    rw [List.length_range, List.length_cons] at this
    omega
/-- the cost -/
theorem cost_spec {n : Int} {a b : List Int} (h : TwoN n a b) : (∃ c, c.Perm b ∧ sumZ n a c = (bestV n a b).2) ∧ ∀ c, c.Perm b → (bestV n a b).2 ≤ sumZ n a c := by
  obtain ⟨l, hl, e, hmin⟩ := bestV_min h
  have hlen : ∀ x ∈ rlead a.length a.length [], a.length = x.length := fun x hx => (all_mem.1 hx).1.symm
  constructor
  · refine ⟨l.map (toneI b), ?_, by rw [e, prV_sumZ (hlen l hl)]⟩
    have := (perm_range hl).map (toneI b)
    rwa [h.2.2, range_tones] at this
  · intro c hc
    obtain ⟨x, hx, e2⟩ := perm_lift (toneI b) hc (List.range b.length) (range_tones b).symm
    have hxm : x ∈ rlead a.length a.length [] := all_mem.2 ⟨by rw [hx.length_eq, List.length_range, h.2.2], fun y hy => by have := List.mem_range.1 (hx.mem_iff.1 hy); rw [h.2.2]; exact this, hx.nodup_iff.2 List.nodup_range⟩
    have := hmin x hxm
    rw [e, e2, ← prV_sumZ (hlen x hxm)]
    exact this
theorem cost_le {n : Int} {a b : List Int} (h : TwoN n a b) {c : List Int} (hc : c.Perm b) : (bestV n a b).2 ≤ sumZ n a c := (cost_spec h).2 c hc
theorem cost_perm {n : Int} {a a' b : List Int} (h : TwoN n a b) (h' : TwoN n a' b) (hp : a'.Perm a) : (bestV n a' b).2 = (bestV n a b).2 := by
  have go : ∀ {a a' : List Int}, TwoN n a b → TwoN n a' b → a'.Perm a → (bestV n a' b).2 ≤ (bestV n a b).2 := fun {a a'} h h' hp => by
    obtain ⟨c, hc, e⟩ := (cost_spec h).1
    obtain ⟨c', hc', e'⟩ := sumZ_move (n := n) hp (show a.length = c.length by rw [hc.length_eq]; exact h.2.2)
    rw [← e, ← e']
    exact cost_le h' (hc'.trans hc)
  exact Int.le_antisymm (go h h' hp) (go h' h hp.symm)
theorem cost_symm {n : Int} {a b : List Int} (h : TwoN n a b) (h' : TwoN n b a) : (bestV n a b).2 = (bestV n b a).2 := by
  have hn := h.1.1
  have go : ∀ {a b : List Int}, TwoN n a b → TwoN n b a → (bestV n b a).2 ≤ (bestV n a b).2 := fun {a b} h h' => by
    obtain ⟨c, hc, e⟩ := (cost_spec h).1
    obtain ⟨c', hc', e'⟩ := sumZ_move (n := n) (a := c) (a' := b) (c := a) hc.symm (by rw [hc.length_eq]; exact h.2.2.symm)
    rw [← e, sumZ_symm hn, ← e']
    exact cost_le h' hc'
  exact Int.le_antisymm (go h' h) (go h h')
theorem cost_tri {n : Int} {a b c : List Int} (hab : TwoN n a b) (hac : TwoN n a c) (hcb : TwoN n c b) : (bestV n a b).2 ≤ (bestV n a c).2 + (bestV n c b).2 := by
  obtain ⟨c1, h1, e1⟩ := (cost_spec hac).1
  obtain ⟨b1, h2, e2⟩ := (cost_spec hcb).1
  obtain ⟨b2, h3, e3⟩ := sumZ_move (n := n) (a := c) (a' := c1) (c := b1) h1 (by rw [h2.length_eq]; exact hcb.2.2)
  have := cost_le hab (h3.trans h2)
  have := sumZ_tri hab.1.1 a c1 b2 (by rw [h1.length_eq]; exact hac.2.2) (by rw [h1.length_eq, h3.length_eq, h2.length_eq]; exact hcb.2.2)
  omega
theorem cost_nonneg {n : Int} {a b : List Int} (h : TwoN n a b) : 0 ≤ (bestV n a b).2 := by
  obtain ⟨c, _, e⟩ := (cost_spec h).1
  rw [← e]; exact sumZ_nonneg h.1.1 _ _
theorem cost_zero {n : Int} {a b : List Int} (h : TwoN n a b) : (bestV n a b).2 = 0 ↔ a.Perm b := by
  constructor
  · intro h0
    obtain ⟨c, hc, e⟩ := (cost_spec h).1
    rw [h0] at e
    have := sumZ_zero h.1.1 a c (by rw [hc.length_eq]; exact h.2.2) h.1.2.2.2.2 (fun x hx => h.2.1.2.2.2.2 x (hc.mem_iff.1 hx)) e
    rw [this]; exact hc
  · intro hp
    have := cost_le h hp
    rw [sumZ_self h.1.1] at this
    have := cost_nonneg h
    omega

end Go.Proofs.Ytfjafmgaahfhgaa.P
namespace Go.Proofs.Ytfjafmgaahfhgaa.P
open Go.RowKit Go.Proofs.YtfjafmgaahfhgaaW.PrintWords Go.Proofs.YtfjafmgaahfhgaaW.PrintLast Go.Proofs.YtfjafmgaahfhgaaW.PrintMore
attribute [local go_sem] max2_int min2_int max_two min_two max_three min_three max_four min_four   -- for this text's walks alone
set_option linter.unusedVariables false
set_option linter.unusedSimpArgs false

/-! tones in order, and what a leading of the least price is -/
theorem insR_comm (x y : Int) : ∀ l : List Int, insR x (insR y l) = insR y (insR x l)
  | [] => by
    by_cases h1 : y ≤ x <;> by_cases h2 : x ≤ y
    · have : x = y := by omega
      subst this; rfl
    · simp [insR, h1, h2]
    · simp [insR, h1, h2]
    · omega
  | z :: l => by
    by_cases h1 : z ≤ y <;> by_cases h2 : z ≤ x
    · simp [insR, h1, h2, insR_comm x y l]
    · have h3 : x ≤ y := by omega
      simp [insR, h1, h2, h3]
    · have h3 : y ≤ x := by omega
      simp [insR, h1, h2, h3]
    · by_cases h3 : y ≤ x <;> by_cases h4 : x ≤ y
      · have : x = y := by omega
        subst this; rfl
      · simp [insR, h1, h2, h3, h4]
      · simp [insR, h1, h2, h3, h4]
      · omega
theorem insR_perm (x : Int) : ∀ l : List Int, (insR x l).Perm (x :: l)
  | [] => List.Perm.refl _
  | y :: l => by
    unfold insR
    split
    · exact ((insR_perm x l).cons y).trans (List.Perm.swap x y l)
    · exact List.Perm.refl _
theorem fold_ins {a b : List Int} (h : a.Perm b) : ∀ o : List Int, a.foldl (fun o x => insR x o) o = b.foldl (fun o x => insR x o) o := by
  induction h with
  | nil => intro o; rfl
  | cons x _ ih => intro o; rw [List.foldl_cons, List.foldl_cons]; exact ih _
  | swap x y l => intro o; rw [List.foldl_cons, List.foldl_cons, List.foldl_cons, List.foldl_cons, insR_comm]
  | trans _ _ ih1 ih2 => intro o; exact (ih1 o).trans (ih2 o)
theorem fold_perm : ∀ (a o : List Int), (a.foldl (fun o x => insR x o) o).Perm (a ++ o)
  | [], o => List.Perm.refl _
  | x :: a, o => by
    rw [List.foldl_cons]
    exact (fold_perm a (insR x o)).trans (((insR_perm x o).append_left a).trans List.perm_middle)
theorem risR_perm (a : List Int) : (risR a).Perm a := by
  have := fold_perm a []
  rw [List.append_nil] at this
  exact this
theorem risR_iff {a b : List Int} : risR a = risR b ↔ a.Perm b :=
  ⟨fun h => (risR_perm a).symm.trans (h ▸ risR_perm b), fun h => fold_ins h []⟩
theorem rising_f (a : List Int) (h : a.length ≤ 1000) : sackbutref06_Rising.f a = some (risR a) := by unfold sackbutref06_Rising.f; rw [if_pos h]
theorem two_symm {n : Int} {a b : List Int} (h : TwoN n a b) : TwoN n b a := ⟨h.2.1, h.1, h.2.2.symm⟩
theorem cost_bd {n : Int} {a b : List Int} (h : TwoN n a b) : (bestV n a b).2 ≤ 1000 := by
  obtain ⟨l, _, e, hl, _⟩ := bestV_some h
  have h1 := (prI_bd h.1.1 a b (nums l) 0).2
  rw [nums_length, hl] at h1
  have h2 : n * (a.length : Int) ≤ 16 * 6 := Int.mul_le_mul h.1.2.1 (by have := h.1.2.2.2.1; omega) (by omega) (by decide)
  rw [e]; unfold prV
  omega
theorem lead_nums3 {k : Nat} {x : List Nat} (h : x ∈ rlead k k []) : LeadOf k (nums x) := by
  obtain ⟨h1, h2, h3⟩ := all_mem.1 h
  refine ⟨by rw [nums_length]; exact h1, fun y hy => ?_, ?_⟩
  · unfold nums at hy
    rw [List.mem_map] at hy
    obtain ⟨z, hz, rfl⟩ := hy
    have := h2 z hz
    show (0 : Int) ≤ (z : Int) ∧ (z : Int) < _
    omega
  · unfold nums
    exact List.Pairwise.map _ (fun a b hab => fun e => hab (Int.ofNat.inj e)) h3
theorem best_lead {n : Int} {a b : List Int} (h : TwoN n a b) : ∃ l, (bestV n a b).1 = some l ∧ LeadOf a.length (nums l) ∧ prI n a b (nums l) 0 = (bestV n a b).2 := by
  obtain ⟨l, hl, e⟩ := rfold_some (prV n a b) (rlead_ne (k := a.length) a.length [] (by simp))
  obtain ⟨h1, h2⟩ := best_ref n a b
  rw [h1] at e
  exact ⟨l, e, lead_nums3 hl, (h2 l e).symm⟩

end Go.Proofs.Ytfjafmgaahfhgaa.P
namespace Go.Proofs.Ytfjafmgaahfhgaa.P
open Go.RowKit Go.Proofs.YtfjafmgaahfhgaaW.PrintWords Go.Proofs.YtfjafmgaahfhgaaW.PrintLast Go.Proofs.YtfjafmgaahfhgaaW.PrintMore
attribute [local go_sem] max2_int min2_int max_two min_two max_three min_three max_four min_four   -- for this text's walks alone
set_option linter.unusedVariables false
set_option linter.unusedSimpArgs false

/-! paths: what the program's and the document's functions come to -/
def lessL6 : List Int → List Int → Bool
  | x :: a, y :: b => if x = y then lessL6 a b else decide (x < y)
  | _, _ => false
theorem less6_loop (l1 l0 : List Int) (hlen : l0.length = l1.length) (hb : l0.length < 9223372036854775807) : ∀ (xs ys pre pre1 : List Int), l0 = pre ++ xs → l1 = pre1 ++ ys → pre.length = pre1.length →
    Ev (fun k => sackbutref06_less.l0 k l1 l0 (l0.length : Int) (pre.length : Int)) (lessL6 xs ys) := by
  intro xs
  induction xs with
  | nil =>
    intro ys pre pre1 h0 h1 hp
    refine Ev.succ ?_
    simp only [sackbutref06_less.l0, if_neg (mid_end h0)]
    simpa [lessL6] using Ev.some false
  | cons x xs ih =>
    intro ys pre pre1 h0 h1 hp
    cases ys with
    | nil => exfalso; have := congrArg List.length h0; have := congrArg List.length h1; simp at *; omega
    | cons y ys =>
      have hrd : rd l1 (pre.length : Int) = y := by rw [hp]; exact mid_rd h1
      have l1' : (pre.length : Int) < (l1.length : Int) := by rw [hp]; exact mid_lt h1
      refine Ev.succ ?_
      simp only [sackbutref06_less.l0, if_pos (mid_lt h0), if_pos (show (0 : Int) ≤ (pre.length : Int) by omega), mid_rd h0, hrd, mid_next h0 hb, if_pos l1', lessL6]
      refine Ev.ite (fun e => ?_) (fun e => ?_)
      · have := ih ys (pre ++ [x]) (pre1 ++ [y]) (mid_mv h0) (mid_mv h1) (by simp [hp])
        simpa [e] using this
      · simpa [e] using Ev.some (decide (x < y))
theorem less6_ev (l0 l1 : List Int) (hlen : l0.length = l1.length) (hb : l0.length < 9223372036854775807) : Ev (fun k => sackbutref06_less.f k l0 l1) (lessL6 l0 l1) := less6_loop l1 l0 hlen hb l0 l1 [] [] rfl rfl rfl
theorem lessL6_same : ∀ (a b : List Int), a.length = b.length → ((lessL6 a b = false ∧ lessL6 b a = false) ↔ a = b)
  | [], [], _ => by simp [lessL6]
  | x :: a, y :: b, h => by
    have ih := lessL6_same a b (by simpa using h)
    simp only [lessL6, List.cons.injEq]
    by_cases e : x = y
    · subst e
      simp only [if_true, true_and]
      exact ih
    · rw [if_neg e, if_neg (fun h => e h.symm)]
      simp only [decide_eq_false_iff_not]
      constructor
      · rintro ⟨h1, h2⟩; omega
      · rintro ⟨h1, _⟩; exact absurd h1 e
  | [], _ :: _, h => by simp at h
  | _ :: _, [], h => by simp at h
theorem same6_ev (l0 l1 : List Int) (hlen : l0.length = l1.length) (hb : l0.length < 9223372036854775807) : Ev (fun k => sackbutref06_same.f k l0 l1) (decide (l0 = l1)) := by
  unfold sackbutref06_same.f
  have hs := lessL6_same l0 l1 hlen
  refine Ev.bind (less6_ev l0 l1 hlen hb) ?_
  cases h1 : lessL6 l0 l1 with
  | true =>
    simp only [if_true]
    rw [decide_eq_false (fun e => by have := hs.2 e; rw [h1] at this; cases this.1)]
    exact Ev.some _
  | false =>
    simp only [Bool.false_eq_true, if_false]
    refine Ev.bind (less6_ev l1 l0 hlen.symm (by omega)) ?_
    cases h2 : lessL6 l1 l0 with
    | true =>
      rw [decide_eq_false (fun e => by have := hs.2 e; rw [h2] at this; cases this.2)]
      exact Ev.some _
    | false =>
      rw [decide_eq_true (hs.1 ⟨h1, h2⟩)]
      exact Ev.some _
/-- each voicing of the rest is one step from the one before -/
def chkP (n : Int) (a : List Int) : List Int → List (List Int) → Bool
  | _, [] => true
  | u, v :: r => decide (VoiN n v ∧ v.length = a.length) && (decide (sumZ n u v = 1) && chkP n a v r)
def isPathP (n : Int) (a b : List Int) : List (List Int) → Bool
  | [] => false
  | v :: r => decide (v = a) && (chkP n a v r && decide (risR (r.getLastD v) = risR b))
theorem chk_snoc (n : Int) (a v : List Int) : ∀ (r : List (List Int)) (u : List Int), chkP n a u (r ++ [v]) = (chkP n a u r && (decide (VoiN n v ∧ v.length = a.length) && decide (sumZ n (r.getLastD u) v = 1)))
  | [], u => by simp [chkP]
  | w :: r, u => by rw [List.cons_append, chkP, chkP, chk_snoc n a v r w, List.getLastD_cons]; simp only [Bool.and_assoc]
theorem two_iff {n : Int} {a v : List Int} (ha : VoiN n a) : TwoN n a v ↔ VoiN n v ∧ v.length = a.length := ⟨fun h => ⟨h.2.1, h.2.2.symm⟩, fun h => ⟨ha, h.1, h.2.symm⟩⟩
theorem prI_ids (n : Int) : ∀ (u v pre pre' : List Int), pre.length = pre'.length → u.length = v.length → prI n (pre ++ u) (pre' ++ v) ((List.range' pre.length u.length).map Int.ofNat) pre.length = sumZ n u v
  | [], [], _, _, _, _ => rfl
  | x :: u, y :: v, pre, pre', h, h2 => by
    have ih := prI_ids n u v (pre ++ [x]) (pre' ++ [y]) (by simp [h]) (by simpa using h2)
    rw [List.length_append, List.length_singleton, List.append_assoc, List.append_assoc] at ih
    rw [List.length_cons, List.range'_succ, List.map_cons, prI, sumZ]
    rw [List.singleton_append, List.singleton_append] at ih
    rw [ih]
    have e1 : (pre ++ x :: u).getD pre.length 0 = x := by simp
    have e2 : (pre' ++ y :: v).getD (Int.ofNat pre.length).toNat 0 = y := by rw [h]; simp
    rw [e1, e2]
  | [], _ :: _, _, _, _, h2 => by simp at h2
  | _ :: _, [], _, _, _, h2 => by simp at h2
theorem ids_take {m : Nat} (h : m ≤ 6) : ([0, 1, 2, 3, 4, 5] : List Int).take m = (List.range' 0 m).map Int.ofNat := by
  rcases m with _ | _ | _ | _ | _ | _ | _ | m
  · rfl
  · rfl
  · rfl
  · rfl
  · rfl
  · rfl
  · rfl
  · omega
theorem rising7_f (a : List Int) (h : a.length ≤ 1000) : voices_rising.f a = some (a.mergeSort fun x y => decide (x ≤ y)) := by unfold voices_rising.f; rw [if_pos h]
theorem ris7_iff (a b : List Int) : (a.mergeSort fun x y => decide (x ≤ y)) = (b.mergeSort fun x y => decide (x ≤ y)) ↔ a.Perm b := by
  constructor
  · intro h
    exact (List.mergeSort_perm a _).symm.trans (h ▸ List.mergeSort_perm b _)
  · intro h
    have s1 := List.pairwise_mergeSort (le := fun x y : Int => decide (x ≤ y)) (fun a b c h1 h2 => by simp at *; omega) (fun a b => by simp; omega) a
    have s2 := List.pairwise_mergeSort (le := fun x y : Int => decide (x ≤ y)) (fun a b c h1 h2 => by simp at *; omega) (fun a b => by simp; omega) b
    refine List.Perm.eq_of_pairwise (le := fun x y : Int => decide (x ≤ y) = true) (fun a b _ _ h1 h2 => by simp at *; omega) s1 s2 (((List.mergeSort_perm a _).trans h).trans (List.mergeSort_perm b _).symm)
theorem mid_last {u : List Int} {path pre : List (List Int)} (hp : path = pre ++ [u]) (hlen : path.length < 1000000) : wrap64 ((path.length : Int) - 1) = (pre.length : Int) ∧ rd_L1 path (pre.length : Int) = u := by
  have : path.length = pre.length + 1 := by rw [hp]; simp
  refine ⟨by rw [wrap_id (by omega) (by omega)]; omega, ?_⟩
  rw [hp]; exact rdL_mid (rest := [])
theorem isPath_loop {n : Int} {a b : List Int} (hab : TwoN n a b) {path : List (List Int)} (hl : path.length < 1000) : ∀ (rest pre : List (List Int)) (u : List Int), path = pre ++ u :: rest → VoiN n u → u.length = a.length →
    Ev (fun k => voices_IsPath.l0 k a b path n (path.length : Int) ((pre.length : Int) + 1)) (chkP n a u rest && decide (risR (rest.getLastD u) = risR b), 0) := by
  intro rest
  induction rest with
  | nil =>
    intro pre u hp hu hul
    have hlen : path.length = pre.length + 1 := by rw [hp]; simp
    obtain ⟨m1, m2⟩ := mid_last hp (by omega)
    have ha6 := hab.1.2.2.2.1
    have hb6 := hab.2.1.2.2.2.1
    refine Ev.succ ?_
    simp only [voices_IsPath.l0, if_neg (show ¬ (pre.length : Int) + 1 < (path.length : Int) by omega), m1, m2, if_pos (show (0 : Int) ≤ (pre.length : Int) by omega), if_pos (show (pre.length : Int) < (path.length : Int) by omega)]
    refine Ev.bind_some (rising7_f u (by omega)) ?_
    refine Ev.bind_some (rising7_f b (by omega)) ?_
    refine Ev.bind (Equal_ev _ _ (by rw [List.length_mergeSort]; omega)) ?_
    have e : decide ((u.mergeSort fun x y => decide (x ≤ y)) = b.mergeSort fun x y => decide (x ≤ y)) = decide (risR u = risR b) := by
      rw [decide_eq_decide, ris7_iff, risR_iff]
    rw [e]
    simpa [chkP] using Ev.some _
  | cons v rest ih =>
    intro pre u hp hu hul
    have hlen : path.length = pre.length + 1 + (rest.length + 1) := by rw [hp]; simp; omega
    have hp2 : path = (pre ++ [u]) ++ v :: rest := by rw [hp]; simp
    have hv : rd_L1 path ((pre.length : Int) + 1) = v := by
      have := rdL_mid (pre := pre ++ [u]) (v := v) (rest := rest)
      rw [← hp2] at this
      rw [← this]; congr 1; simp
    have hu2 : rd_L1 path (pre.length : Int) = u := by rw [hp]; exact rdL_mid
    have w1 : wrap64 ((pre.length : Int) + 1 - 1) = (pre.length : Int) := by rw [wrap_id (by omega) (by omega)]; omega
    have w2 : wrap64 ((pre.length : Int) + 1 + 1) = ((pre ++ [u]).length : Int) + 1 := by rw [wrap_id (by omega) (by omega)]; simp
    have ha6 := hab.1.2.2.2.1
    refine Ev.succ ?_
    simp only [voices_IsPath.l0, if_pos (show (pre.length : Int) + 1 < (path.length : Int) by omega), if_pos (show (0 : Int) ≤ (pre.length : Int) + 1 by omega), hv, w1, hu2, if_pos (show (pre.length : Int) + 1 > 0 by omega), if_pos (show (0 : Int) ≤ (pre.length : Int) by omega), if_pos (show (pre.length : Int) < (path.length : Int) by omega)]
    refine Ev.bind (valid2_ev n a v) ?_
    by_cases hc : VoiN n v ∧ v.length = a.length
    · rw [decide_eq_true ((two_iff hab.1).2 hc)]
      simp only [if_true]
      refine Ev.bind_some rfl ?_
      have e6 : (([0, 1, 2, 3, 4, 5] : List Int).length : Int) = 6 := rfl
      simp only [e6, if_pos (show (0 : Int) ≤ (a.length : Int) by omega), if_pos (show (a.length : Int) ≤ 6 by omega), Int.toNat_natCast, ids_take ha6]
      have hpr := price_ev hu hc.1 ((List.range' 0 a.length).map Int.ofNat) (by simp; omega) (fun k hk => by
        rw [List.mem_map] at hk
        obtain ⟨i, hi, rfl⟩ := hk
        rw [List.mem_range'_1] at hi
        have := hc.2
        show (0 : Int) ≤ (i : Int) ∧ (i : Int) < _
        omega)
      have hs := prI_ids n u v [] [] rfl (by rw [hul, hc.2])
      simp only [List.nil_append, List.length_nil, hul] at hs
      rw [hs] at hpr
      refine Ev.bind hpr ?_
      simp only [chkP, decide_eq_true hc, Bool.true_and]
      refine Ev.ite (fun e => ?_) (fun e => ?_)
      · rw [decide_eq_true e, Bool.true_and, w2, List.getLastD_cons]
        exact ih (pre ++ [u]) v hp2 hc.1 hc.2
      · rw [decide_eq_false e, Bool.false_and, Bool.false_and]
        exact Ev.some _
    · rw [decide_eq_false (fun h => hc ((two_iff hab.1).1 h))]
      simp only [Bool.false_eq_true, if_false, chkP, decide_eq_false hc, Bool.false_and]
      exact Ev.some _
theorem IsPath_ev {n : Int} {a b : List Int} (hab : TwoN n a b) (path : List (List Int)) (hl : path.length < 1000) : Ev (fun k => voices_IsPath.f k n a b path) (isPathP n a b path, 0) := by
  unfold voices_IsPath.f
  refine Ev.bind (valid2_ev n a b) ?_
  rw [decide_eq_true hab]
  simp only [if_true]
  cases path with
  | nil =>
    simp only [List.length_nil, if_true, isPathP]
    refine Ev.succ ?_
    simp only [voices_IsPath.j0, if_true]
    exact Ev.some _
  | cons v r =>
    have h0 : ¬ ((v :: r).length : Int) = 0 := by rw [List.length_cons]; omega
    have h1 : (0 : Int) < ((v :: r).length : Int) := by rw [List.length_cons]; omega
    have hv0 : rd_L1 (v :: r) 0 = v := rfl
    simp only [if_neg h0, if_pos h1, hv0]
    have ha6 := hab.1.2.2.2.1
    by_cases hva : v = a
    · subst hva
      refine Ev.bind (Equal_ev v v (by omega)) ?_
      rw [decide_eq_true (rfl : v = v)]
      refine Ev.succ ?_
      simp only [voices_IsPath.j0, Bool.not_true, Bool.false_eq_true, if_false]
      refine Ev.succ ?_
      simp only [voices_IsPath.l0, if_pos h1, if_pos (show (0 : Int) ≤ 0 by omega), hv0]
      refine Ev.bind (valid2_ev n v v) ?_
      rw [decide_eq_true (show TwoN n v v from ⟨hab.1, hab.1, rfl⟩)]
      simp only [if_true, if_neg (show ¬ (0 : Int) > 0 by omega)]
      have := isPath_loop hab hl r [] v rfl hab.1 rfl
      rw [show (([] : List (List Int)).length : Int) + 1 = 1 from rfl] at this
      rw [show wrap64 (0 + 1) = 1 from by rw [wrap_id (by omega) (by omega)]; rfl]
      simp only [isPathP, decide_true, Bool.true_and]
      exact this
    · have he : Ev (fun k => slices_Equal_int_int.f k v a) false := by
        have hx : Ev (fun k => slices_Equal_int_int.f k v a) (decide (v = a)) := by
          by_cases hvl : v.length = a.length
          · exact Equal_ev v a (by omega)
          · unfold slices_Equal_int_int.f
            rw [decide_eq_false hva]
            have : ¬ (v.length : Int) = (a.length : Int) := by omega
            simp only [if_neg this]
            exact Ev.some _
        rwa [decide_eq_false hva] at hx
      refine Ev.bind he ?_
      refine Ev.succ ?_
      simp only [voices_IsPath.j0, Bool.not_false, if_true, isPathP, decide_eq_false hva, Bool.false_and]
      exact Ev.some _
theorem far_one (m : Nat) {d s : Int} (h0 : 0 ≤ d) (h1 : d ≠ 0) (h2 : ¬ d = 1) (h3 : 0 ≤ s) : ¬ ((m : Int) + (d + s) = 1) := by omega
def is1 (z : Int) : Bool := decide (z = 1)
theorem refMoves_loop {n : Int} (hn : 2 ≤ n) (hn2 : n ≤ 16) (a b : List Int) (path : List (List Int)) (hl : path.length < 1000) (i : Nat) (u v : List Int) (hi : 1 ≤ i) (hil : i < path.length) (hu : rd_L1 path ((i : Int) - 1) = u) (hv : VoiN n v) (huv : VoiN n u) (hlen : v.length = u.length) (out : Bool)
    (hnext : Ev (fun k => sackbutref06_IsPath.l0 k n a b path path (path.length : Int) ((i : Int) + 1)) out) : ∀ (ys xs pre pre' : List Int) (m : Nat), v = pre ++ ys → u = pre' ++ xs → pre.length = pre'.length → m ≤ pre.length →
    Ev (fun k => sackbutref06_IsPath.l1 k n a b path (i : Int) (m : Int) path (path.length : Int) (i : Int) v (v.length : Int) (pre.length : Int)) (is1 ((m : Int) + sumZ n xs ys) && out) := by
  have hv6 := hv.2.2.2.1
  have w0 : wrap64 ((i : Int) - 1) = (i : Int) - 1 := wrap_id (by omega) (by omega)
  have w1 : wrap64 ((i : Int) + 1) = (i : Int) + 1 := wrap_id (by omega) (by omega)
  intro ys
  induction ys with
  | nil =>
    intro xs pre pre' m h0 h1 hp hm
    have hx : xs = [] := by
      have a1 := congrArg List.length h0
      have a2 := congrArg List.length h1
      rw [List.length_append] at a1 a2
      rw [List.length_nil] at a1
      exact List.eq_nil_of_length_eq_zero (by omega)
    subst hx
    refine Ev.succ ?_
    simp only [sackbutref06_IsPath.l1, if_neg (mid_end h0), sumZ, Int.add_zero, w1]
    refine Ev.ite (fun e => ?_) (fun e => ?_)
    · rw [show is1 (m : Int) = true from decide_eq_true e, Bool.true_and]; exact hnext
    · rw [show is1 (m : Int) = false from decide_eq_false e, Bool.false_and]; exact Ev.some _
  | cons y ys ih =>
    intro xs pre pre' m h0 h1 hp hm
    cases xs with
    | nil =>
      exfalso
      have a1 := congrArg List.length h0
      have a2 := congrArg List.length h1
      rw [List.length_append] at a1 a2
      rw [List.length_cons] at a1
      rw [List.length_nil] at a2
      omega
    | cons x xs =>
      have hvl : v.length = pre.length + (ys.length + 1) := by rw [h0]; simp
      have hrd : rd u (pre.length : Int) = x := by rw [hp]; exact mid_rd h1
      have l1' : (pre.length : Int) < (u.length : Int) := by rw [hp]; exact mid_lt h1
      have hyr := hv.2.2.2.2 y (by rw [h0]; simp)
      have hxr := huv.2.2.2.2 x (by rw [h1]; simp)
      have hs0 := sumZ_nonneg (n := n) hn xs ys
      have wm : wrap64 ((m : Int) + 1) = ((m + 1 : Nat) : Int) := by rw [wrap_id (by omega) (by omega)]; omega
      refine Ev.succ ?_
      simp only [sackbutref06_IsPath.l1, if_pos (mid_lt h0), if_pos (show (0 : Int) ≤ (pre.length : Int) by omega), w0, if_pos (show (0 : Int) ≤ (i : Int) - 1 by omega), if_pos (show (i : Int) - 1 < (path.length : Int) by omega), hu, if_pos l1', mid_rd h0, hrd, mid_next h0 (by omega), wm]
      rw [show sumZ n (x :: xs) (y :: ys) = dsN n x y + sumZ n xs ys from rfl]
      refine Ev.ite (fun e => ?_) (fun e => ?_)
      · subst e
        rw [ds_self hn, Int.zero_add]
        have := ih xs (pre ++ [y]) (pre' ++ [y]) m (mid_mv h0) (mid_mv h1) (by simp [hp]) (Nat.le_trans hm (by simp))
        exact this
      · refine Ev.bind_some (refDistance_f hn hn2 hyr hxr) ?_
        have hb := dsN_bd (n := n) (x := y) (y := x) hn
        have hsy := ds_symm (n := n) (x := x) (y := y) hn
        have hnz : dsN n y x ≠ 0 := fun h => e (ds_zero hn hyr hxr h)
        rw [hsy]
        refine Ev.ite (fun e1 => ?_) (fun e1 => ?_)
        · have := ih xs (pre ++ [y]) (pre' ++ [x]) (m + 1) (mid_mv h0) (mid_mv h1) (by simp [hp]) (by simp; omega)
          rw [e1, show (m : Int) + (1 + sumZ n xs ys) = ((m + 1 : Nat) : Int) + sumZ n xs ys by omega]
          exact this
        · have hb1 := hb.1
          have hz := far_one m hb1 hnz e1 hs0
          have hf : is1 ((m : Int) + (dsN n y x + sumZ n xs ys)) = false := decide_eq_false hz
          rw [hf, Bool.false_and]
          exact Ev.some _
theorem refIsPath_loop {n : Int} {a b : List Int} (hab : TwoN n a b) {path : List (List Int)} (hl : path.length < 1000) (hml : ∀ v ∈ path, v.length < 9223372036854775808) : ∀ (rest pre : List (List Int)) (u : List Int), path = pre ++ u :: rest → VoiN n u → u.length = a.length →
    Ev (fun k => sackbutref06_IsPath.l0 k n a b path path (path.length : Int) ((pre.length : Int) + 1)) (chkP n a u rest && decide (risR (rest.getLastD u) = risR b)) := by
  intro rest
  induction rest with
  | nil =>
    intro pre u hp hu hul
    have hlen : path.length = pre.length + 1 := by rw [hp]; simp
    obtain ⟨m1, m2⟩ := mid_last hp (by omega)
    have ha6 := hab.1.2.2.2.1
    have hb6 := hab.2.1.2.2.2.1
    refine Ev.succ ?_
    simp only [sackbutref06_IsPath.l0, if_neg (show ¬ (pre.length : Int) + 1 < (path.length : Int) by omega), m1, m2, if_pos (show (0 : Int) ≤ (pre.length : Int) by omega), if_pos (show (pre.length : Int) < (path.length : Int) by omega)]
    refine Ev.bind_some (rising_f u (by omega)) ?_
    refine Ev.bind_some (rising_f b (by omega)) ?_
    refine Ev.bind (same6_ev _ _ (by rw [risR_length, risR_length, hul, hab.2.2]) (by rw [risR_length]; omega)) ?_
    simpa [chkP] using Ev.some _
  | cons v rest ih =>
    intro pre u hp hu hul
    have hlen : path.length = pre.length + 1 + (rest.length + 1) := by rw [hp]; simp; omega
    have hp2 : path = (pre ++ [u]) ++ v :: rest := by rw [hp]; simp
    have hv : rd_L1 path ((pre.length : Int) + 1) = v := by
      have := rdL_mid (pre := pre ++ [u]) (v := v) (rest := rest)
      rw [← hp2] at this
      rw [← this]; congr 1; simp
    have hu2 : rd_L1 path (pre.length : Int) = u := by rw [hp]; exact rdL_mid
    have hvm : v ∈ path := by rw [hp2]; simp
    have ha6 := hab.1.2.2.2.1
    refine Ev.succ ?_
    simp only [sackbutref06_IsPath.l0, if_pos (show (pre.length : Int) + 1 < (path.length : Int) by omega), if_pos (show (0 : Int) ≤ (pre.length : Int) + 1 by omega), hv, if_neg (show ¬ (pre.length : Int) + 1 = 0 by omega)]
    refine Ev.bind (refTwo_ev n a v (by omega) (hml v hvm)) ?_
    by_cases hc : VoiN n v ∧ v.length = a.length
    · rw [decide_eq_true ((two_iff hab.1).2 hc)]
      simp only [if_true, chkP, decide_eq_true hc, Bool.true_and, List.getLastD_cons, Bool.and_assoc]
      have hnext := ih (pre ++ [u]) v hp2 hc.1 hc.2
      have e2 : (((pre ++ [u]).length : Nat) : Int) = (pre.length : Int) + 1 := by simp
      have := refMoves_loop hc.1.1 hc.1.2.1 a b path hl (pre ++ [u]).length u v (by simp) (by rw [List.length_append, List.length_singleton]; omega) (by rw [e2, Int.add_sub_cancel]; exact hu2) hc.1 hu (by rw [hc.2, hul]) _ hnext v u [] [] 0 rfl rfl rfl (by simp)
      rw [e2] at this
      rw [show ((0 : Nat) : Int) + sumZ n u v = sumZ n u v by omega] at this
      exact this
    · rw [decide_eq_false (fun h => hc ((two_iff hab.1).1 h))]
      simp only [Bool.false_eq_true, if_false, chkP, decide_eq_false hc, Bool.false_and]
      exact Ev.some _
theorem refIsPath_ev {n : Int} {a b : List Int} (hab : TwoN n a b) (path : List (List Int)) (hl : path.length < 1000) (hml : ∀ v ∈ path, v.length < 9223372036854775808) : Ev (fun k => sackbutref06_IsPath.f k n a b path) (isPathP n a b path) := by
  unfold sackbutref06_IsPath.f
  cases path with
  | nil => simpa [isPathP] using Ev.some false
  | cons v r =>
    have h0 : ¬ ((v :: r).length : Int) = 0 := by rw [List.length_cons]; omega
    have h1 : (0 : Int) < ((v :: r).length : Int) := by rw [List.length_cons]; omega
    have hv0 : rd_L1 (v :: r) 0 = v := rfl
    have ha6 := hab.1.2.2.2.1
    simp only [if_neg h0]
    refine Ev.succ ?_
    simp only [sackbutref06_IsPath.l0, if_pos h1, if_pos (show (0 : Int) ≤ 0 by omega), hv0, if_true]
    refine Ev.bind (refTwo_ev n a v (by omega) (hml v (by simp))) ?_
    by_cases hc : VoiN n v ∧ v.length = a.length
    · rw [decide_eq_true ((two_iff hab.1).2 hc)]
      simp only [if_true]
      refine Ev.bind (same6_ev a v hc.2.symm (by omega)) ?_
      by_cases hva : v = a
      · subst hva
        simp only [decide_true, if_true]
        have := refIsPath_loop hab hl hml r [] v rfl hc.1 hc.2
        rw [show (([] : List (List Int)).length : Int) + 1 = 1 from rfl] at this
        rw [show wrap64 (0 + 1) = 1 from by rw [wrap_id (by omega) (by omega)]; rfl]
        simp only [isPathP, decide_true, Bool.true_and]
        exact this
      · rw [decide_eq_false (fun h => hva h.symm)]
        simp only [Bool.false_eq_true, if_false, isPathP, decide_eq_false hva, Bool.false_and]
        exact Ev.some _
    · rw [decide_eq_false (fun h => hc ((two_iff hab.1).1 h))]
      have hva : v ≠ a := fun h => hc ⟨h ▸ hab.1, by rw [h]⟩
      simp only [Bool.false_eq_true, if_false, isPathP, decide_eq_false hva, Bool.false_and]
      exact Ev.some _
theorem lists_loop (l : List (List Int)) (hl : l.length < 9223372036854775808) : ∀ (rest pre : List (List Int)), l = pre ++ rest → Ev (fun k => sackbutlaw06_lists.l0 k ((pre.take 60).map (·.take 9)) l (l.length : Int) (pre.length : Int)) ((l.take 60).map (·.take 9)) := by
  intro rest
  induction rest with
  | nil =>
    intro pre hp
    have hlen : l.length = pre.length := by rw [hp]; simp
    have e : l = pre := by rw [hp]; simp
    refine Ev.succ ?_
    subst e
    simp only [sackbutlaw06_lists.l0, if_neg (show ¬ (l.length : Int) < (l.length : Int) by omega)]
    exact Ev.some _
  | cons v rest ih =>
    intro pre hp
    have hlen : l.length = pre.length + (rest.length + 1) := by rw [hp]; simp
    have hv : rd_L1 l (pre.length : Int) = v := by rw [hp]; exact rdL_mid
    have w1 : wrap64 ((pre.length : Int) + 1) = ((pre ++ [v]).length : Int) := by rw [wrap_id (by omega) (by omega)]; simp
    have go := ih (pre ++ [v]) (by rw [hp]; simp)
    have hle : ((pre.take 60).map (·.take 9)).length < 5864062014805 := by simp; omega
    refine Ev.succ ?_
    simp only [sackbutlaw06_lists.l0, if_pos (show (pre.length : Int) < (l.length : Int) by omega), if_pos (show (0 : Int) ≤ (pre.length : Int) by omega), hv, w1, if_pos hle]
    by_cases h60 : pre.length < 60
    · simp only [if_pos (show (pre.length : Int) < 60 by omega)]
      refine Ev.bind_some (list9_f v) ?_
      have e : ((pre ++ [v]).take 60).map (·.take 9) = (pre.take 60).map (·.take 9) ++ [v.take 9] := by
        rw [List.take_of_length_le (by simp; omega), List.take_of_length_le (by omega), List.map_append]; rfl
      rw [e] at go
      exact go
    · simp only [if_neg (show ¬ (pre.length : Int) < 60 by omega)]
      have e : (pre ++ [v]).take 60 = pre.take 60 := by rw [List.take_append_of_le_length (by omega)]
      rw [e] at go
      exact go
theorem lists_ev (l : List (List Int)) (hl : l.length < 9223372036854775808) : Ev (fun k => sackbutlaw06_lists.f k l) ((l.take 60).map (·.take 9)) := lists_loop l hl l [] rfl
theorem chk_map {n : Int} {a : List Int} : ∀ (r : List (List Int)) (u : List Int), chkP n a u (r.map (·.take 9)) = chkP n a u r ∧ (chkP n a u r = true → r.map (·.take 9) = r)
  | [], _ => ⟨rfl, fun _ => rfl⟩
  | v :: r, u => by
    by_cases hv : VoiN n v
    · have e := voi_take9 hv
      obtain ⟨h1, h2⟩ := chk_map r v (n := n) (a := a)
      rw [List.map_cons, e, chkP, chkP, h1]
      refine ⟨rfl, fun h => ?_⟩
      rw [h2 (by simp only [Bool.and_eq_true] at h; exact h.2.2)]
    · have hv9 : ¬ VoiN n (v.take 9) := fun h => hv ((voi_take n v).1 h)
      rw [List.map_cons, chkP, chkP, decide_eq_false (fun h : VoiN n v ∧ v.length = a.length => hv h.1), decide_eq_false (fun h : VoiN n (v.take 9) ∧ (v.take 9).length = a.length => hv9 h.1), Bool.false_and, Bool.false_and]
      exact ⟨rfl, fun h => by cases h⟩
theorem isPath_map {n : Int} {a b : List Int} (ha : VoiN n a) : ∀ (p : List (List Int)), isPathP n a b (p.map (·.take 9)) = isPathP n a b p
  | [] => rfl
  | v :: r => by
    have hal := ha.2.2.2.1
    rw [List.map_cons, isPathP, isPathP]
    by_cases hva : v = a
    · subst hva
      have e := voi_take9 ha
      obtain ⟨h1, h2⟩ := chk_map r v (n := n) (a := v)
      rw [e, h1]
      cases hc : chkP n v v r with
      | true => rw [h2 hc]
      | false => rfl
    · have h9 : v.take 9 ≠ a := fun h => hva (by
        have h3 := congrArg List.length h
        rw [List.length_take] at h3
        rw [← h, List.take_of_length_le (by omega)])
      rw [decide_eq_false hva, decide_eq_false h9, Bool.false_and, Bool.false_and]
/-- a path is no shorter than the cost -/
theorem chk_len {n : Int} {a : List Int} (hn : 2 ≤ n) : ∀ (r : List (List Int)) (u : List Int), u.length = a.length → chkP n a u r = true → sumZ n u (r.getLastD u) ≤ r.length ∧ (r.getLastD u).length = a.length
  | [], u, h, _ => by simp only [List.getLastD_nil, List.length_nil]; rw [sumZ_self hn]; exact ⟨by omega, h⟩
  | v :: r, u, h, hc => by
    simp only [chkP, Bool.and_eq_true, decide_eq_true_eq] at hc
    obtain ⟨h1, h2⟩ := chk_len hn r v hc.1.2 hc.2.2
    rw [List.getLastD_cons]
    have := sumZ_tri hn u v (r.getLastD v) (by rw [h, hc.1.2]) (by rw [h2, hc.1.2])
    refine ⟨?_, h2⟩
    have h3 := hc.2.1
    rw [List.length_cons]; omega
theorem path_long {n : Int} {a b : List Int} (hab : TwoN n a b) {p : List (List Int)} (h : isPathP n a b p = true) : (bestV n a b).2 + 1 ≤ p.length := by
  cases p with
  | nil => cases h
  | cons v r =>
    simp only [isPathP, Bool.and_eq_true, decide_eq_true_eq] at h
    obtain ⟨rfl, h2, h3⟩ := h
    obtain ⟨h4, _⟩ := chk_len hab.1.1 r v rfl h2
    have := cost_le hab (risR_iff.1 h3)
    rw [List.length_cons]; omega
theorem chk_all {n : Int} {a : List Int} : ∀ (r : List (List Int)) (u : List Int), chkP n a u r = true → ∀ v ∈ r, VoiN n v ∧ v.length = a.length
  | [], _, _, v, hv => by cases hv
  | w :: r, u, hc, v, hv => by
    simp only [chkP, Bool.and_eq_true, decide_eq_true_eq] at hc
    rcases List.mem_cons.1 hv with rfl | hv
    · exact hc.1
    · exact chk_all r w hc.2.2 v hv
theorem path_lens {n : Int} {a b : List Int} (hab : TwoN n a b) {p : List (List Int)} (h : isPathP n a b p = true) : ∀ v ∈ p, v.length < 9223372036854775808 := by
  intro v hv
  have ha6 := hab.1.2.2.2.1
  cases p with
  | nil => cases h
  | cons u r =>
    simp only [isPathP, Bool.and_eq_true, decide_eq_true_eq] at h
    obtain ⟨rfl, h2, h3⟩ := h
    rcases List.mem_cons.1 hv with rfl | hv
    · omega
    · have := (chk_all r u h2 v hv).2; omega

end Go.Proofs.Ytfjafmgaahfhgaa.P
namespace Go.Proofs.Ytfjafmgaahfhgaa.P
open Go.RowKit Go.Proofs.YtfjafmgaahfhgaaW.PrintWords Go.Proofs.YtfjafmgaahfhgaaW.PrintLast Go.Proofs.YtfjafmgaahfhgaaW.PrintMore
attribute [local go_sem] max2_int min2_int max_two min_two max_three min_three max_four min_four   -- for this text's walks alone
set_option linter.unusedVariables false
set_option linter.unusedSimpArgs false

/-! what voices.Path comes to -/
theorem set_mid6 {α : Type} (A B : List α) (x v : α) : (A ++ x :: B).set A.length v = A ++ v :: B := by
  rw [List.set_append_right _ _ (Nat.le_refl _)]; simp
theorem sumZ_one {n : Int} (hn : 2 ≤ n) (c d : Int) (Q : List Int) : ∀ P : List Int, sumZ n (P ++ c :: Q) (P ++ d :: Q) = dsN n c d
  | [] => by simp only [List.nil_append, sumZ, sumZ_self hn, Int.add_zero]
  | x :: P => by simp only [List.cons_append, sumZ, sumZ_one hn c d Q P, ds_self hn, Int.zero_add]
theorem neg_emod {n x : Int} (h0 : -n ≤ x) (h1 : x < 0) : x % n = x + n := by
  rw [← Int.add_emod_right, Int.emod_eq_of_lt (by omega) (by omega)]
theorem ds_step {n c s : Int} (hn : 2 ≤ n) (hc : 0 ≤ c ∧ c < n) (hs : s = 1 ∨ s = -1) : dsN n c ((c + s) % n) = 1 := by
  have key : ((c + s) % n - c) % n = 1 ∨ ((c + s) % n - c) % n = n - 1 := by
    rw [Int.emod_sub_emod, show c + s - c = s by omega]
    rcases hs with rfl | rfl
    · left; exact Int.emod_eq_of_lt (by omega) (by omega)
    · right; rw [neg_emod (by omega) (by omega)]; omega
  unfold dsN mvN
  generalize ((c + s) % n - c) % n = q at key ⊢
  rcases key with rfl | rfl
  · rw [if_neg (by omega)]; omega
  · by_cases h2 : n = 2
    · subst h2; decide
    · rw [if_pos (by omega)]; omega
theorem end_tone {n x y : Int} (hy : 0 ≤ y ∧ y < n) : (x + mvN n x y) % n = y := by
  unfold mvN
  split
  · rw [show x + ((y - x) % n - n) = x + (y - x) % n - n by omega, Int.sub_emod_right, Int.add_emod_emod, show x + (y - x) = y by omega, Int.emod_eq_of_lt hy.1 hy.2]
  · rw [Int.add_emod_emod, show x + (y - x) = y by omega, Int.emod_eq_of_lt hy.1 hy.2]
theorem abs_sM {s : Int} (hs : s = 1 ∨ s = -1) {M : Nat} (hM : M ≤ 100) : voices_abs.f (s * (M : Int)) = some (M : Int) := by
  unfold voices_abs.f
  rw [mx_eq]
  rcases hs with rfl | rfl
  · rw [Int.one_mul, wrap_id (by omega) (by omega)]; congr 1; omega
  · rw [Int.neg_mul, Int.one_mul, wrap_id (by omega) (by omega)]; congr 1; omega
theorem tdiv_sM {s : Int} (hs : s = 1 ∨ s = -1) {M : Nat} (hM : 1 ≤ M) : wrap64 (Int.tdiv (s * (M : Int)) (M : Int)) = s := by
  rcases hs with rfl | rfl
  · rw [Int.one_mul, Int.tdiv_self (by omega), wrap_id (by omega) (by omega)]
  · rw [Int.neg_mul, Int.one_mul, Int.neg_tdiv, Int.tdiv_self (by omega), wrap_id (by omega) (by omega)]
theorem not_zero {M : Nat} (h : 1 ≤ M) : ¬ (M : Int) = 0 := by omega
theorem rows_few {a : List Int} {r : List (List Int)} (h : r.length < 1000) : (a :: r).length < 5864062014805 := by rw [List.length_cons]; omega
theorem wrap_cs {n c s : Int} (hn2 : n ≤ 16) (h0 : 0 ≤ c) (h1 : c < n) (hs : s = 1 ∨ s = -1) : wrap64 (c + s) = c + s := wrap_id (by omega) (by omega)
theorem set_mid6b (a : List Int) (r : List (List Int)) (v : List Int) : a :: (r ++ [v]) = (a :: r) ++ [v] := rfl
theorem path_in {n : Int} {a b : List Int} (hab : TwoN n a b) (lead : List Int) (P Q : List Int) (hPQ : P.length + 1 + Q.length = a.length) (hP : ∀ x ∈ P, 0 ≤ x ∧ x < n) (hQ : ∀ x ∈ Q, 0 ≤ x ∧ x < n) (x s : Int) (M : Nat) (hM : M ≤ 100) (hs : s = 1 ∨ s = -1) (len i : Int) (t : Nat) : ∀ (j : Nat) (r : List (List Int)), j + t = M → (a :: r).getLastD a = P ++ ((x + s * j) % n) :: Q → chkP n a a r = true → r.length + t < 1000 →
    ∃ r', chkP n a a r' = true ∧ (a :: r').getLastD a = P ++ ((x + s * M) % n) :: Q ∧ r'.length = r.length + t ∧ ∀ o, Ev (fun k => voices_Path.l0 k a b n lead (P ++ ((x + s * M) % n) :: Q) (a :: r') len (wrap64 (i + 1))) o → Ev (fun k => voices_Path.l1 k a b n lead (P ++ ((x + s * j) % n) :: Q) (a :: r) (P.length : Int) (s * M) len i (M : Int) (j : Int)) o := by
  obtain ⟨hn, hn2, ha1, ha6, har⟩ := hab.1
  induction t with
  | zero =>
    intro j r hj hl hc _
    have : j = M := by omega
    subst this
    refine ⟨r, hc, hl, rfl, fun o ho => ?_⟩
    refine Ev.succ ?_
    simp only [voices_Path.l1, if_neg (show ¬ (j : Int) < (j : Int) by omega)]
    exact ho
  | succ t ih =>
    intro j r hj hl hc hr
    have hjM : j < M := by omega
    have hc0 := Int.emod_nonneg (x + s * j) (show n ≠ 0 by omega)
    have hc1 := Int.emod_lt_of_pos (x + s * j) (show 0 < n by omega)
    have e : ((x + s * j) % n + s) % n = (x + s * ((j + 1 : Nat) : Int)) % n := by
      rw [Int.emod_add_emod, Int.natCast_add, Int.mul_add]; congr 1; omega
    have hst := ds_step hn ⟨hc0, hc1⟩ hs
    rw [e] at hst
    have hd0 := Int.emod_nonneg (x + s * ((j + 1 : Nat) : Int)) (show n ≠ 0 by omega)
    have hd1 := Int.emod_lt_of_pos (x + s * ((j + 1 : Nat) : Int)) (show 0 < n by omega)
    obtain ⟨c, hcE⟩ : ∃ c, (x + s * (j : Int)) % n = c := ⟨_, rfl⟩
    obtain ⟨d, hdE⟩ : ∃ d, (x + s * ((j + 1 : Nat) : Int)) % n = d := ⟨_, rfl⟩
    rw [hcE] at e hst hc0 hc1 hl ⊢
    rw [hdE] at e hst hd0 hd1
    have hv : VoiN n (P ++ d :: Q) ∧ (P ++ d :: Q).length = a.length := by
      have hlen : (P ++ d :: Q).length = a.length := by simp; omega
      refine ⟨⟨hn, hn2, by omega, by omega, fun y hy => ?_⟩, hlen⟩
      rcases List.mem_append.1 hy with h | h
      · exact hP y h
      · rcases List.mem_cons.1 h with rfl | h
        · exact ⟨hd0, hd1⟩
        · exact hQ y h
    have hlast : r.getLastD a = P ++ c :: Q := by rw [← hl, List.getLastD_cons]
    have hchk : chkP n a a (r ++ [P ++ d :: Q]) = true := by
      rw [chk_snoc, hc, decide_eq_true hv, hlast, sumZ_one hn, decide_eq_true hst]; rfl
    obtain ⟨r', g1, g2, g3, g4⟩ := ih (j + 1) (r ++ [P ++ d :: Q]) (by omega) (by rw [hdE, List.getLastD_cons, List.getLastD_concat]) hchk (by simp; omega)
    refine ⟨r', g1, g2, by rw [g3]; simp; omega, fun o ho => ?_⟩
    have hgo := g4 o ho
    have w1 : wrap64 ((j : Int) + 1) = ((j + 1 : Nat) : Int) := by rw [wrap_id (by omega) (by omega)]; omega
    have hab1 := abs_sM hs (show M ≤ 100 from hM)
    have hM1 : 1 ≤ M := Nat.lt_of_le_of_lt (Nat.zero_le j) hjM
    have htd := tdiv_sM hs hM1
    have hM0 : ¬ (M : Int) = 0 := not_zero hM1
    have hjMz : (j : Int) < (M : Int) := Int.ofNat_lt.2 hjM
    have hrl : (a :: r).length < 5864062014805 := rows_few (by omega)
    have hmd : voices_circle_mod.f n (wrap64 (c + s)) = some d := by
      rw [wrap_cs hn2 hc0 hc1 hs, mod_f hn hn2, e]
    have hget : rd (P ++ c :: Q) (P.length : Int) = c := mid_rd rfl
    have hcl : slices_Clone_int_int.f (P ++ d :: Q) = some (P ++ d :: Q) := by unfold slices_Clone_int_int.f; rw [if_pos (by rw [hv.2]; omega)]
    refine Ev.succ ?_
    simp only [voices_Path.l1, if_pos hjMz, if_pos (Int.natCast_nonneg P.length), if_pos (mid_lt (l := P ++ c :: Q) rfl), hget, Int.toNat_natCast, set_mid6, w1]
    refine Ev.bind_some hab1 ?_
    simp only [if_neg hM0, htd]
    refine Ev.bind_some hmd ?_
    refine Ev.bind_some rfl ?_
    refine Ev.bind_some hcl ?_
    simp only [if_pos hrl]
    rw [hdE, set_mid6b] at hgo
    exact hgo
theorem sgn_mv {n x y : Int} (hn : 2 ≤ n) : ∃ (s : Int) (M : Nat), (s = 1 ∨ s = -1) ∧ mvN n x y = s * (M : Int) ∧ (M : Int) = dsN n x y := by
  have h := dsN_bd (n := n) (x := x) (y := y) hn
  unfold dsN at h ⊢
  generalize mvN n x y = m at h ⊢
  by_cases h0 : 0 ≤ m
  · exact ⟨1, m.toNat, .inl rfl, by omega, by omega⟩
  · exact ⟨-1, (-m).toNat, .inr rfl, by omega, by omega⟩
theorem nums_app (x y : List Nat) : nums (x ++ y) = nums x ++ nums y := by unfold nums; rw [List.map_append]
theorem path_out {n : Int} {a b : List Int} (hab : TwoN n a b) (L : List Nat) (hLl : L.length = a.length) (hLr : ∀ y ∈ L, y < a.length) : ∀ (restl : List Nat) (prel : List Nat) (arest apre done : List Int) (r : List (List Int)), L = prel ++ restl → a = apre ++ arest → apre.length = prel.length → done.length = prel.length → (∀ x ∈ done, 0 ≤ x ∧ x < n) → chkP n a a r = true → (a :: r).getLastD a = done ++ arest → r.length ≤ 8 * prel.length →
    ∃ r', chkP n a a r' = true ∧ (a :: r').getLastD a = done ++ restl.map (toneI b) ∧ (r'.length : Int) = r.length + sumZ n arest (restl.map (toneI b)) ∧ Ev (fun k => voices_Path.l0 k a b n (nums L) (done ++ arest) (a :: r) ((nums L).length : Int) (prel.length : Int)) (a :: r', 0) := by
  obtain ⟨hn, hn2, ha1, ha6, har⟩ := hab.1
  intro restl
  induction restl with
  | nil =>
    intro prel arest apre done r hL hA hap hd hdr hc hl hr
    have h1 : L.length = prel.length := by rw [hL]; simp
    have h2 : a.length = apre.length + arest.length := by rw [hA]; simp
    have : arest = [] := List.eq_nil_of_length_eq_zero (by omega)
    subst this
    refine ⟨r, hc, by simpa using hl, by simp [sumZ], ?_⟩
    refine Ev.succ ?_
    simp only [voices_Path.l0, nums_length, if_neg (show ¬ (prel.length : Int) < (L.length : Int) by omega)]
    exact Ev.some _
  | cons q restl ih =>
    intro prel arest apre done r hL hA hap hd hdr hc hl hr
    have h1 : L.length = prel.length + (restl.length + 1) := by rw [hL]; simp
    have h2 : a.length = apre.length + arest.length := by rw [hA]; simp
    cases arest with
    | nil => simp at h2; omega
    | cons x arest =>
      rw [List.length_cons] at h2
      have hq := hLr q (by rw [hL]; simp)
      have hxr := har x (by rw [hA]; simp)
      have hbq := hab.2.1.2.2.2.2 (toneI b q) (getD_mem (l := b) (i := q) (by rw [← hab.2.2]; exact hq))
      obtain ⟨s, M, hs, hm, hMd⟩ := sgn_mv (n := n) (x := x) (y := toneI b q) hn
      have hbd := dsN_bd (n := n) (x := x) (y := toneI b q) hn
      have hM8 : M ≤ 8 := by omega
      have e0 : (x + s * ((0 : Nat) : Int)) % n = x := by rw [Int.natCast_zero, Int.mul_zero, Int.add_zero, Int.emod_eq_of_lt hxr.1 hxr.2]
      have eM : (x + s * (M : Int)) % n = toneI b q := by rw [← hm]; exact end_tone hbq
      obtain ⟨r1, g1, g2, g3, g4⟩ := path_in hab (nums L) done arest (by omega) hdr (fun y hy => har y (by rw [hA]; simp [hy])) x s M (by omega) hs ((nums L).length : Int) (prel.length : Int) M 0 r (by omega) (by rw [e0]; exact hl) hc (by omega)
      rw [eM] at g2 g4
      rw [e0] at g4
      obtain ⟨r', k1, k2, k3, k4⟩ := ih (prel ++ [q]) arest (apre ++ [x]) (done ++ [toneI b q]) r1 (by rw [hL]; simp) (by rw [hA]; simp) (by simp [hap]) (by simp [hd]) (fun y hy => by
        rcases List.mem_append.1 hy with h | h
        · exact hdr y h
        · rw [List.mem_singleton] at h; subst h; exact hbq) g1 (by rw [g2]; simp) (by rw [g3]; simp; omega)
      refine ⟨r', k1, by rw [k2]; simp, by rw [k3, g3, List.map_cons, sumZ]; omega, ?_⟩
      have w1 : wrap64 ((prel.length : Int) + 1) = ((prel ++ [q]).length : Int) := by rw [wrap_id (by omega) (by omega)]; simp
      have hrdL : rd (nums L) (prel.length : Int) = (q : Int) := by
        have : nums L = nums prel ++ (q : Int) :: nums restl := by rw [hL, nums_app]; rfl
        have h5 := mid_rd this
        rwa [nums_length] at h5
      have hrdA : rd a (prel.length : Int) = x := by rw [← hap]; exact mid_rd hA
      have hrdB : rd b (q : Int) = toneI b q := rd_nat b q
      have hbl := hab.2.2
      refine Ev.succ ?_
      simp only [voices_Path.l0, nums_length, if_pos (show (prel.length : Int) < (L.length : Int) by omega), if_pos (show (0 : Int) ≤ (prel.length : Int) by omega), hrdL, hrdA, hrdB, if_pos (show (prel.length : Int) < (a.length : Int) by omega), if_pos (show (0 : Int) ≤ (q : Int) by omega), if_pos (show (q : Int) < (b.length : Int) by omega)]
      refine Ev.bind_some (movement_f hn hn2 hxr hbq) ?_
      have hab1 : voices_abs.f (mvN n x (toneI b q)) = some (M : Int) := by
        unfold voices_abs.f
        have := mvN_bd (n := n) (x := x) (y := toneI b q) hn
        rw [mx_eq, wrap_id (by omega) (by omega), hMd]; rfl
      refine Ev.bind_some hab1 ?_
      have := g4 _ (by
        rw [w1]
        have e3 : done ++ toneI b q :: arest = (done ++ [toneI b q]) ++ arest := by simp
        rw [e3]
        exact k4)
      rw [hd, ← hm, nums_length] at this
      exact this
theorem Path_ev {n : Int} {a b : List Int} (hab : TwoN n a b) : ∃ p, Ev (fun k => voices_Path.f k n a b) (p, 0) ∧ isPathP n a b p = true ∧ (p.length : Int) = (bestV n a b).2 + 1 := by
  obtain ⟨L, hL, e⟩ := rfold_some (prV n a b) (rlead_ne (k := a.length) a.length [] (by simp))
  obtain ⟨h1, h2⟩ := best_ref n a b
  rw [h1] at e
  have hcost := h2 L e
  obtain ⟨hLl, hLr, hLn⟩ := all_mem.1 hL
  obtain ⟨r', k1, k2, k3, k4⟩ := path_out hab L hLl hLr L [] a [] [] [] rfl rfl rfl rfl (by simp) rfl rfl (by simp)
  refine ⟨a :: r', ?_, ?_, ?_⟩
  · unfold voices_Path.f
    refine Ev.bind (valid2_ev n a b) ?_
    rw [decide_eq_true hab]
    simp only [if_true]
    have hb : voices_circle_best.f n a b = some (nums L, (bestV n a b).2) := by unfold voices_circle_best.f; rw [if_pos hab, e]; rfl
    have ha6 := hab.1.2.2.2.1
    have hcl : slices_Clone_int_int.f a = some a := by unfold slices_Clone_int_int.f; rw [if_pos (by omega)]
    refine Ev.bind_some hb ?_
    refine Ev.bind_some hcl ?_
    refine Ev.bind_some hcl ?_
    exact k4
  · rw [List.getLastD_cons] at k2
    have hp := (perm_range hL).map (toneI b)
    rw [hab.2.2, range_tones] at hp
    simp only [isPathP, decide_true, Bool.true_and, k1, k2, List.nil_append]
    exact decide_eq_true (risR_iff.2 hp)
  · rw [List.length_cons, Int.natCast_add, k3, hcost, prV_sumZ hLl.symm]; simp
theorem Path_no {n : Int} {a b : List Int} (hab : ¬ TwoN n a b) : Ev (fun k => voices_Path.f k n a b) ([], 2) := by
  unfold voices_Path.f
  refine Ev.bind (valid2_ev n a b) ?_
  rw [decide_eq_false hab]
  simp only [Bool.false_eq_true, if_false]
  exact Ev.some _
theorem IsPath_no {n : Int} {a b : List Int} (hab : ¬ TwoN n a b) (p : List (List Int)) : Ev (fun k => voices_IsPath.f k n a b p) (false, 2) := by
  unfold voices_IsPath.f
  refine Ev.bind (valid2_ev n a b) ?_
  rw [decide_eq_false hab]
  simp only [Bool.false_eq_true, if_false]
  exact Ev.some _
theorem cost_48 {n : Int} {a b : List Int} (h : TwoN n a b) : (bestV n a b).2 ≤ 48 := by
  obtain ⟨l, l1, l2, l3⟩ := best_lead h
  have h1 := (prI_bd h.1.1 a b (nums l) 0).2
  have h2 : (nums l).length = a.length := l2.1
  have h3 : n * ((nums l).length : Int) ≤ 16 * 6 := Int.mul_le_mul h.1.2.1 (by have := h.1.2.2.2.1; omega) (by omega) (by omega)
  omega

end Go.Proofs.Ytfjafmgaahfhgaa.P
namespace Go.Proofs.Ytfjafmgaahfhgaa.P
open Go.RowKit Go.Proofs.YtfjafmgaahfhgaaW.PrintWords Go.Proofs.YtfjafmgaahfhgaaW.PrintLast Go.Proofs.YtfjafmgaahfhgaaW.PrintMore
attribute [local go_sem] max2_int min2_int max_two min_two max_three min_three max_four min_four   -- for this text's walks alone
set_option linter.unusedVariables false
set_option linter.unusedSimpArgs false

theorem VoicesShort : sackbutlaw06_VoicesShort.Pure := by
  intro n a b path _ ha1 _ _ hb1 _ _ hp1 hp2
  have hM : maxLen = 9223372036854775807 := rfl
  refine Ev.rounds (g := fun k => sackbutlaw06_VoicesShort.f k n a b path) ?_
  unfold sackbutlaw06_VoicesShort.f
  by_cases h : TwoN n a b
  · have hal := h.1.2.2.2.1
    have hbl := h.2.1.2.2.2.1
    obtain ⟨p, hp, hpo, hpl⟩ := Path_ev h
    have hcb := cost_48 h
    have hc0 := cost_nonneg h
    have hct : voices_Cost.f n a b = some ((bestV n a b).2, 0) := by unfold voices_Cost.f; rw [if_pos h]
    refine Ev.bind_some (list9_f a) ?_
    refine Ev.bind_some (list9_f b) ?_
    rw [voi_take9 h.1, voi_take9 h.2.1]
    refine Ev.bind hp ?_
    refine Ev.bind_some (list9_f a) ?_
    refine Ev.bind_some (list9_f b) ?_
    rw [voi_take9 h.1, voi_take9 h.2.1]
    refine Ev.bind_some hct ?_
    simp only [if_true]
    refine Ev.bind (refTwo_ev n a b (by omega) (by omega)) ?_
    simp only [h, decide_true, Bool.not_true]
    refine Ev.succ ?_
    simp only [sackbutlaw06_VoicesShort.j0, Bool.false_eq_true, if_false]
    refine Ev.bind_some (list9_f a) ?_
    refine Ev.bind_some (list9_f b) ?_
    rw [voi_take9 h.1, voi_take9 h.2.1]
    refine Ev.bind (lists_ev p (by omega)) ?_
    rw [List.take_of_length_le (by omega)]
    refine Ev.bind (IsPath_ev h _ (by simp; omega)) ?_
    rw [isPath_map h.1, hpo]
    simp only [if_true]
    have e1 : ((p.length : Int) != wrap64 ((bestV n a b).2 + 1)) = false := by
      rw [wrap_id (by omega) (by omega), hpl]; simp
    rw [e1]
    refine Ev.succ ?_
    simp only [sackbutlaw06_VoicesShort.j1, Bool.false_eq_true, if_false]
    refine Ev.bind_some (list9_f a) ?_
    refine Ev.bind_some (list9_f b) ?_
    rw [voi_take9 h.1, voi_take9 h.2.1]
    refine Ev.bind (lists_ev path (by omega)) ?_
    refine Ev.bind (IsPath_ev h _ (by simp; omega)) ?_
    simp only [if_true]
    refine Ev.ite (fun e => ?_) (fun _ => Ev.bind_some awake_f (Ev.some _))
    have hl := path_long h e
    rw [List.length_map, List.length_take] at hl
    rw [if_pos (show (path.length : Int) ≥ (p.length : Int) by omega)]
    exact Ev.bind_some awake_f (Ev.some _)
  · have h9 : ¬ TwoN n (a.take 9) (b.take 9) := fun h3 => h ((two_take n a b).1 h3)
    have hct : voices_Cost.f n (a.take 9) (b.take 9) = some (0, 2) := by unfold voices_Cost.f; rw [if_neg h9]
    refine Ev.bind_some (list9_f a) ?_
    refine Ev.bind_some (list9_f b) ?_
    refine Ev.bind (Path_no h9) ?_
    refine Ev.bind_some (list9_f a) ?_
    refine Ev.bind_some (list9_f b) ?_
    refine Ev.bind_some hct ?_
    simp only [if_neg (show ¬ (2 : Int) = 0 by decide)]
    refine Ev.succ ?_
    simp only [sackbutlaw06_VoicesShort.j0, if_true]
    exact Ev.bind_some awake_f (Ev.some _)

end Go.Proofs.Ytfjafmgaahfhgaa.P
namespace Go.Proofs.Ytfjafmgaahfhgaa.Pure
theorem VoicesShort : Go.Proofs.Ytfjafmgaahfhgaa.P.sackbutlaw06_VoicesShort.Pure := Go.Proofs.Ytfjafmgaahfhgaa.P.VoicesShort
end Go.Proofs.Ytfjafmgaahfhgaa.Pure
namespace Go.Proofs.Ytfjafmgaahfhgaa.P
open Go.RowKit Go.Proofs.YtfjafmgaahfhgaaW.PrintWords Go.Proofs.YtfjafmgaahfhgaaW.PrintLast Go.Proofs.YtfjafmgaahfhgaaW.PrintMore
attribute [local go_sem] max2_int min2_int max_two min_two max_three min_three max_four min_four   -- for this text's walks alone
set_option linter.unusedVariables false
set_option linter.unusedSimpArgs false

/-! an argument of slices of slices, as it came in -/
theorem mat_arg {H : Type} {enc : TypeId × Value → H} {w : World} {held : Bool} {a : Option Addr} {len cap fuel : Nat} {x : DataW H × List MemPlace}
    (h : DataW.trod enc Try.prog w 0 (fun _ => true) held fuel 22 [.slice a len cap] = some x) :
    ∃ L : List (List Int), L.length = len ∧ len ≤ cap ∧ cap ≤ maxLen ∧ Kd.C (Kd.slice 3 (Kd.int .i64)) w a len L ∧ ∀ r ∈ L, r.length ≤ maxLen ∧ ∀ n ∈ r, (Lit.int .i64 n).wf = true := by
  rcases Go.Deep.open_int_rows Try.underlying22 Try.underlying23 Try.underlying3 (by kernel_rfl) (by kernel_rfl) h with ⟨hcs, _⟩ | ⟨b, len', cap', A, L, C, Z, hcs, _, hl, hm, _, hr⟩
  · simp [Value.cells] at hcs
    obtain ⟨rfl, rfl, rfl⟩ := hcs
    exact ⟨[], rfl, Nat.le_refl _, Nat.zero_le _, ⟨rfl, by omega, fun hn => absurd hn (by omega)⟩, fun r hr => by cases hr⟩
  · simp [Value.cells] at hcs
    obtain ⟨rfl, rfl, rfl⟩ := hcs
    have hmx : len ≤ 9223372036854775807 := by
      have : maxLen ≤ 9223372036854775807 := by decide
      omega
    have zl : ∀ r, r < len → ((Z r).take (L r)).length = L r := fun r hlt => by
      obtain ⟨_, h1, h2, h3, _⟩ := hr r (by omega)
      rw [List.length_take]; omega
    have hlm : ∀ r, r < len → L r ≤ 9223372036854775807 := fun r hlt => by
      obtain ⟨_, h1, h2, _⟩ := hr r (by omega)
      have : maxLen ≤ 9223372036854775807 := by decide
      omega
    refine ⟨(List.range len).map fun r => (Z r).take (L r), by simp, hl, hm, ⟨by simp, hmx, fun hn => ⟨b, rfl, ?_⟩⟩, ?_⟩
    · intro j p hj
      rw [List.getElem?_map] at hj
      obtain ⟨q, hq, rfl⟩ := Option.map_eq_some_iff.1 hj
      obtain ⟨hjl, rfl⟩ := List.getElem?_eq_some_iff.1 hq
      rw [List.length_range] at hjl
      obtain ⟨h0, h1, h2, h3, h4, h5, h6⟩ := hr j (by omega)
      refine ⟨[.slice (A j) (L j) (C j)], rfl, ⟨A j, C j, ?_, ?_, ?_⟩, ?_⟩
      · simp [zl j hjl]
      · simp only [List.getElem_range]; rw [zl j hjl]; exact h1
      · simp only [List.getElem_range]
        rw [zl j hjl]
        refine Kd.C_of_reads (enc := Value.int .i64) (d := (0 : Int)) (h1 := fun _ => rfl) ⟨zl j hjl, hlm j hjl, fun hn => ?_⟩
        cases ha : A j with
        | none => have := h5 ha; omega
        | some a' =>
          refine ⟨a', rfl, fun i hi => ?_⟩
          rw [(h6 a' ha).2 i (by omega)]
          simp [List.getD_eq_getElem?_getD, List.getElem?_take, hi]
      · intro i u hu
        cases i with
        | zero => simp at hu; subst hu; rw [show j * (Kd.slice 3 (Kd.int .i64)).sz + 0 = j from Nat.mul_one j]; exact h0
        | succ i => simp at hu
    · intro r hr'
      obtain ⟨q, hq, rfl⟩ := List.mem_map.1 hr'
      have hql := List.mem_range.1 hq
      obtain ⟨_, h1, h2, h3, h4, _⟩ := hr q (by omega)
      exact ⟨by rw [zl q hql]; omega, fun n hn => h4 n (List.mem_of_mem_take hn)⟩
theorem mat_arg2 {H : Type} {enc : TypeId × Value → H} {w : World} {held : Bool} {a : Option Addr} {len cap : Nat} {d : DataW H} {ps : List MemPlace}
    (h : DataW.Trod enc Try.prog w 0 (fun _ => true) held 22 (.slice a len cap) d ps) :
    ∃ L : List (List Int), L.length = len ∧ len ≤ cap ∧ cap ≤ maxLen ∧ Kd.C (Kd.slice 23 (Kd.int .i64)) w a len L ∧ ∀ r ∈ L, r.length ≤ maxLen ∧ ∀ n ∈ r, (Lit.int .i64 n).wf = true := by
  obtain ⟨fuel, hf⟩ := h
  exact mat_arg hf

end Go.Proofs.Ytfjafmgaahfhgaa.P
namespace Go.Proofs.Ytfjafmgaahfhgaa.voicesShort
open Go.ChangeShapes Go.WideShapes Go.ChangeAt Go.RowKit
open Go.ChangeMaps (open_string shut_string)
set_option linter.unusedVariables false
theorem own : ownKnob Try.prog.godebug = none := by kernel_rfl
theorem laidOut : laidOutB Try.prog = true := by kernel_rfl
def IsRow (k : IntKind) (w : World) (a : Option Addr) (len cap : Nat) (zs : List Int) : Prop :=
  (a = none ∧ len = 0 ∧ cap = 0 ∧ zs = []) ∨
  ∃ x, a = some x ∧ len ≤ cap ∧ cap ≤ maxLen ∧ zs.length = cap ∧ (∀ i, i < zs.length → w.cell? (x.add i) = some (.int k (zs.getD i 0))) ∧ ∀ n ∈ zs, (Lit.int k n).wf = true
set_option maxRecDepth 100000 in
theorem lifted (os : Os) (started : os.Started) (H : Type) (enc : TypeId × Value → H) :
    ReturnsInHanded {} Try.checked os 5 .any (Rows.voicesShortSpec.pre6 enc Try.prog Try.f5 Rows.voicesShortRow.domain false) (Rows.voicesShortSpec.post enc Try.prog Try.f5 false true false false) := by
  refine returnsInHanded_of_change_sized (C := Try.checked) own started (by kernel_rfl) Try.func5
    (ChangeSpec.witness6 (enc := enc) (C := Try.checked) false ⟨#[], #[.int .i64 0, .slice none 0 0, .slice none 0 0, .slice none 0 0], []⟩ 8 (by kernel_rfl) (by kernel_rfl) (by kernel_rfl) (by kernel_rfl)) ?_
  intro W base args ds gs before hval0 hW hcnd hsz0 _
  have hsz : (DataW.weightsEach Try.prog (Try.f5.params.toList ++ Rows.voicesShortSpec.plain.varTypes Try.prog) (ds ++ gs)).all (· ≤ reachBytes) = true := hsz0
  have hval : ∀ (j : Nat) t v, Try.f5.params[j]? = some t → args[j]? = some v → Value.okWide Try.prog W .any base t v := hval0
  have hW' := hW
  obtain ⟨p, q, hA0, hV, rfl, hfz, hnd⟩ := hW
  have hA : DataW.TrodAll enc Try.prog W 0 (fun _ => true) true Try.f5.params.toList args.toList ds p := hA0
  rw [Try.params5] at hA hval hsz
  obtain ⟨v0, vs0, d0, ds0, p0, q0, hargs, rfl, rfl, h0, r0⟩ := trodAll_cons hA
  obtain ⟨v1, vs1, d1, ds1, p1, q1, rfl, rfl, rfl, h1, r1⟩ := trodAll_cons r0
  obtain ⟨v2, vs2, d2, ds2, p2, q2, rfl, rfl, rfl, h2, r2⟩ := trodAll_cons r1
  obtain ⟨v3, vs3, d3, ds3, p3, q3, rfl, rfl, rfl, h3, r3⟩ := trodAll_cons r2
  obtain ⟨rfl, rfl, rfl⟩ := trodAll_nil r3
  obtain rfl : args = #[v0, v1, v2, v3] := by cases args; simp_all
  obtain ⟨rfl, rfl⟩ := trodVars_none hV
  obtain ⟨a0, rfl, rfl, rfl, w0⟩ := open_int Try.underlying3 (hval 0 3 v0 rfl rfl) h0
  obtain ⟨a1, len1, cap1, rfl⟩ := okWide_slice Try.underlying23 (hval 1 23 v1 rfl rfl)
  have k1 := h1
  have lt1 : ∀ x ∈ p1, x.block < W.heap.size := by obtain ⟨m, hm⟩ := k1; exact DataW.trod_lt m _ _ _ hm
  obtain ⟨z1, w1⟩ : ∃ zs, IsRow .i64 W a1 len1 cap1 zs := by
    obtain ⟨fuel, hf⟩ := h1
    rcases open_ints Try.underlying23 Try.underlying3 (by kernel_rfl) hf with ⟨hcs, _⟩ | ⟨x, l, c, zs, hcs, _, hl, hm, hz, _, hcell, hwz⟩
    · simp [Value.cells] at hcs
      obtain ⟨rfl, rfl, rfl⟩ := hcs
      exact ⟨[], .inl ⟨rfl, rfl, rfl, rfl⟩⟩
    · simp [Value.cells] at hcs
      obtain ⟨rfl, rfl, rfl⟩ := hcs
      exact ⟨zs, .inr ⟨_, rfl, hl, hm, by simpa using hz, hcell, hwz⟩⟩
  have y1 : len1 * 8 ≤ 140737488351232 := Go.Proofs.YtfjafmgaahfhgaaW.PrintWords.sized_ints hsz (j := 1) (t := 23) rfl rfl Try.underlying23 Try.underlying3 (by kernel_rfl) (by kernel_rfl) h1
  obtain ⟨a2, len2, cap2, rfl⟩ := okWide_slice Try.underlying23 (hval 2 23 v2 rfl rfl)
  have k2 := h2
  have lt2 : ∀ x ∈ p2, x.block < W.heap.size := by obtain ⟨m, hm⟩ := k2; exact DataW.trod_lt m _ _ _ hm
  obtain ⟨z2, w2⟩ : ∃ zs, IsRow .i64 W a2 len2 cap2 zs := by
    obtain ⟨fuel, hf⟩ := h2
    rcases open_ints Try.underlying23 Try.underlying3 (by kernel_rfl) hf with ⟨hcs, _⟩ | ⟨x, l, c, zs, hcs, _, hl, hm, hz, _, hcell, hwz⟩
    · simp [Value.cells] at hcs
      obtain ⟨rfl, rfl, rfl⟩ := hcs
      exact ⟨[], .inl ⟨rfl, rfl, rfl, rfl⟩⟩
    · simp [Value.cells] at hcs
      obtain ⟨rfl, rfl, rfl⟩ := hcs
      exact ⟨zs, .inr ⟨_, rfl, hl, hm, by simpa using hz, hcell, hwz⟩⟩
  have y2 : len2 * 8 ≤ 140737488351232 := Go.Proofs.YtfjafmgaahfhgaaW.PrintWords.sized_ints hsz (j := 2) (t := 23) rfl rfl Try.underlying23 Try.underlying3 (by kernel_rfl) (by kernel_rfl) h2
  obtain ⟨a3, len3, cap3, rfl⟩ := okWide_slice Try.underlying22 (hval 3 22 v3 rfl rfl)
  have k3 := h3
  have lt3 : ∀ x ∈ p3, x.block < W.heap.size := by obtain ⟨m, hm⟩ := k3; exact DataW.trod_lt m _ _ _ hm
  obtain ⟨l3, e3, hc3, hm3, hr3, hw3⟩ := P.mat_arg2 h3
  subst e3
  have hm3 := Nat.le_trans hc3 hm3
  clear hA0 hval0 hsz0 hsz
  refine (P.sackbutlaw06_VoicesShort.walk Pure.VoicesShort a0 a1 len1 cap1 z1 a2 len2 cap2 z2 a3 cap3 l3 W w0 w1 y1 w2 y2 hr3 hc3 hm3 hw3).mono fun e W' ⟨he, bel⟩ => ?_
  subst he
  exact ⟨_, rfl, _, _, _, [], _, [], hW', trodAll_mk1 (shut_bool Try.underlying4 _), (trodAll_cons_mk (shut_int Try.underlying3 w0) (trodAll_cons_mk (Below.trod laidOut (by kernel_rfl) (of_decide_eq_true (by kernel_rfl)) k1 bel lt1) (trodAll_cons_mk (Below.trod laidOut (by kernel_rfl) (of_decide_eq_true (by kernel_rfl)) k2 bel lt2) (trodAll_cons_mk (Below.trod laidOut (by kernel_rfl) (of_decide_eq_true (by kernel_rfl)) k3 bel lt3) trodAll_mk0)))), rfl, bel.frame _, fun h => by cases h⟩
theorem over : Rows.voicesShortRow.holds Try.pinned (OpenSpec.ofChange Rows.voicesShortSpec) :=
  OpenClaim.holds_of_wide 5 Try.f5 rfl rfl rfl rfl rfl rfl rfl ⟨rfl, rfl, rfl, rfl, rfl⟩ rfl rfl rfl rfl rfl (by kernel_rfl) Try.func5 (by kernel_rfl)
    (of_decide_eq_true (by kernel_rfl)) (by unfold Func.isWrapper; first | (rw [if_pos (by decide +kernel)]; kernel_rfl) | (rw [if_neg (by decide +kernel)]; exact ⟨rfl, rfl⟩))
    (fun os started H enc _ => lifted os started H enc)
theorem proved : Rows.VoicesShortSaid := over
#print axioms proved
end Go.Proofs.Ytfjafmgaahfhgaa.voicesShort
namespace Go.Proofs.Ytfjafmgaahfhgaa
/-- The row, under a short name, for the claim. -/
theorem voicesShort_holds : Rows.VoicesShortSaid := voicesShort.proved
end Go.Proofs.Ytfjafmgaahfhgaa
