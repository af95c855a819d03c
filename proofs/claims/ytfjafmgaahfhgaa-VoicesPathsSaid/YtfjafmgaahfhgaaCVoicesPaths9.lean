/- A part of a proof that a law's Go function returns true for every input, laid by this session's program mp.py (which drives the kit's print). Conditions: as each theorem states them. -/
import Derived.Laws.EntriesVeiled
import Derived.Test.YtfjafmgaahfhgaaCVoicesPaths1
import Derived.Test.YtfjafmgaahfhgaaCVoicesPaths2
import Derived.Test.YtfjafmgaahfhgaaCVoicesPaths3
import Derived.Test.YtfjafmgaahfhgaaCVoicesPaths7
import Derived.Test.YtfjafmgaahfhgaaCVoicesPaths8
namespace Go.Proofs.Ytfjafmgaahfhgaa.P
open Go.RowKit Go.Proofs.YtfjafmgaahfhgaaW.PrintWords Go.Proofs.YtfjafmgaahfhgaaW.PrintLast Go.Proofs.YtfjafmgaahfhgaaW.PrintMore
attribute [local go_sem] max2_int min2_int max_two min_two max_three min_three max_four min_four   -- for this text's walks alone
set_option linter.unusedVariables false
set_option linter.unusedSimpArgs false

/-! leadings and their prices, of the program and of the document -/
def LeadOf (k : Nat) (l : List Int) : Prop := l.length = k ∧ (∀ x ∈ l, 0 ≤ x ∧ x < k) ∧ l.Nodup
instance (k : Nat) (l : List Int) : Decidable (LeadOf k l) := by unfold LeadOf; infer_instance
theorem lead_full {l : List Int} {k : Nat} (hl : l.length = k) (hr : ∀ x ∈ l, 0 ≤ x ∧ x < k) : orAll 0 (l.map Int.toNat) = 2 ^ k - 1 ↔ l.Nodup := by
  have hr' : ∀ x ∈ l.map Int.toNat, x < k := by
    intro x hx
    obtain ⟨y, hy, rfl⟩ := List.mem_map.1 hx
    have := hr y hy
    omega
  rw [orAll_full _ hr', ← nodup_toNat (fun x hx => (hr x hx).1)]
  exact ⟨fun h => nodup_of_full (by simp [hl]) h, fun h => full_of_nodup (by simp [hl]) hr' h⟩
/-! voicings, in the document's words -/
theorem mid_next8 {l pre xs : List Int} {x : Int} (hl : l = pre ++ x :: xs) (hb : l.length < 9223372036854775808) : wrap64 ((pre.length : Int) + 1) = ((pre ++ [x]).length : Int) := by
  have : l.length = pre.length + (xs.length + 1) := by rw [hl]; simp
  rw [wrap_id (by omega) (by omega)]; simp
theorem refVoicing_loop (n : Int) (l : List Int) (hl : l.length < 9223372036854775808) : ∀ (xs pre : List Int), l = pre ++ xs →
    Ev (fun q => sackbutref06_Voicing.l0 q n l l (l.length : Int) (pre.length : Int)) (decide ((∀ x ∈ xs, 0 ≤ x ∧ x < n) ∧ 2 ≤ n ∧ n ≤ 16 ∧ 1 ≤ l.length ∧ l.length ≤ 6)) := by
  intro xs
  induction xs with
  | nil =>
    intro pre h0
    refine Ev.succ ?_
    simp only [sackbutref06_Voicing.l0, if_neg (mid_end h0)]
    refine Ev.ite (fun e1 => ?_) (fun e1 => by rw [decide_eq_false (fun h => e1 h.2.1)]; exact Ev.some _)
    refine Ev.ite (fun e2 => ?_) (fun e2 => by rw [decide_eq_false (fun h => e2 h.2.2.1)]; exact Ev.some _)
    refine Ev.ite (fun e3 => ?_) (fun e3 => by rw [decide_eq_false (fun h => e3 (by have := h.2.2.2.1; omega))]; exact Ev.some _)
    have e : decide ((l.length : Int) ≤ 6) = decide ((∀ x ∈ ([] : List Int), 0 ≤ x ∧ x < n) ∧ 2 ≤ n ∧ n ≤ 16 ∧ 1 ≤ l.length ∧ l.length ≤ 6) := by
      rw [decide_eq_decide]
      exact ⟨fun h => ⟨by simp, e1, e2, by omega, by omega⟩, fun h => by have := h.2.2.2.2; omega⟩
    rw [e]
    exact Ev.some _
  | cons x xs ih =>
    intro pre h0
    refine Ev.succ ?_
    simp only [sackbutref06_Voicing.l0, if_pos (mid_lt h0), if_pos (show (0 : Int) ≤ (pre.length : Int) by omega), mid_rd h0, mid_next8 h0 hl]
    refine Ev.ite (fun e => by rw [decide_eq_false (fun h => by have := h.1 x (by simp); omega)]; exact Ev.some _) (fun e => ?_)
    refine Ev.ite (fun e2 => by rw [decide_eq_false (fun h => by have := h.1 x (by simp); omega)]; exact Ev.some _) (fun e2 => ?_)
    have e3 : decide ((∀ y ∈ x :: xs, 0 ≤ y ∧ y < n) ∧ 2 ≤ n ∧ n ≤ 16 ∧ 1 ≤ l.length ∧ l.length ≤ 6) = decide ((∀ y ∈ xs, 0 ≤ y ∧ y < n) ∧ 2 ≤ n ∧ n ≤ 16 ∧ 1 ≤ l.length ∧ l.length ≤ 6) := by
      rw [decide_eq_decide]
      constructor
      · rintro ⟨h, r⟩; exact ⟨fun y hy => h y (by simp [hy]), r⟩
      · rintro ⟨h, r⟩
        refine ⟨fun y hy => ?_, r⟩
        rcases List.mem_cons.1 hy with rfl | hy
        · omega
        · exact h y hy
    rw [e3]
    exact ih (pre ++ [x]) (mid_mv h0)
theorem refVoicing_ev (n : Int) (l : List Int) (hl : l.length < 9223372036854775808) : Ev (fun q => sackbutref06_Voicing.f q n l) (decide (VoiN n l)) := by
  have h := refVoicing_loop n l hl l [] rfl
  have e : decide ((∀ x ∈ l, 0 ≤ x ∧ x < n) ∧ 2 ≤ n ∧ n ≤ 16 ∧ 1 ≤ l.length ∧ l.length ≤ 6) = decide (VoiN n l) := by
    rw [decide_eq_decide]; unfold VoiN
    exact ⟨fun h => ⟨h.2.1, h.2.2.1, h.2.2.2.1, h.2.2.2.2, h.1⟩, fun h => ⟨h.2.2.2.2, h.1, h.2.1, h.2.2.1, h.2.2.2.1⟩⟩
  rw [e] at h
  exact h
theorem refTwo_ev (n : Int) (a b : List Int) (ha : a.length < 9223372036854775808) (hb : b.length < 9223372036854775808) : Ev (fun q => sackbutref06_Two.f q n a b) (decide (TwoN n a b)) := by
  unfold sackbutref06_Two.f
  refine Ev.bind (refVoicing_ev n a ha) ?_
  by_cases h1 : VoiN n a
  · simp only [h1, decide_true, if_true]
    refine Ev.bind (refVoicing_ev n b hb) ?_
    by_cases h2 : VoiN n b
    · simp only [h2, decide_true, if_true]
      have e : ((a.length : Int) == (b.length : Int)) = decide (TwoN n a b) := by
        rw [Bool.eq_iff_iff, beq_iff_eq, decide_eq_true_eq]; unfold TwoN
        exact ⟨fun h => ⟨h1, h2, by omega⟩, fun h => by have := h.2.2; omega⟩
      rw [e]; exact Ev.some _
    · simp only [h2, decide_false, Bool.false_eq_true, if_false]
      rw [decide_eq_false (fun h => h2 h.2.1)]; exact Ev.some _
  · simp only [h1, decide_false, Bool.false_eq_true, if_false]
    rw [decide_eq_false (fun h => h1 h.1)]; exact Ev.some _
theorem list9_f (l : List Int) : sackbutlaw06_list.f l = some (l.take 9) := by
  unfold sackbutlaw06_list.f
  rw [mn_eq, if_pos (by omega), if_pos (by omega)]
  have e : (min (l.length : Int) 9).toNat = min l.length 9 := by omega
  have e2 : l.take (min l.length 9) = l.take 9 := by
    rw [Nat.min_comm]; exact (List.take_eq_take_min ..).symm
  rw [e, e2]
  unfold slices_Clone_int_int.f
  rw [if_pos (by rw [List.length_take]; omega)]
  rfl
theorem voi_take (n : Int) (l : List Int) : VoiN n (l.take 9) ↔ VoiN n l := by
  rcases Nat.lt_or_ge 9 l.length with h | h
  · constructor
    · intro hr; have := hr.2.2.2.1; rw [List.length_take] at this; omega
    · intro hr; have := hr.2.2.2.1; omega
  · rw [List.take_of_length_le h]
theorem two_take (n : Int) (a b : List Int) : TwoN n (a.take 9) (b.take 9) ↔ TwoN n a b := by
  unfold TwoN
  rw [voi_take, voi_take]
  constructor
  · rintro ⟨h1, h2, h3⟩
    have := h1.2.2.2.1; have := h2.2.2.2.1
    rw [List.take_of_length_le (by omega), List.take_of_length_le (by omega)] at h3
    exact ⟨h1, h2, h3⟩
  · rintro ⟨h1, h2, h3⟩
    have := h1.2.2.2.1; have := h2.2.2.2.1
    rw [List.take_of_length_le (by omega), List.take_of_length_le (by omega)]
    exact ⟨h1, h2, h3⟩
theorem voi_take9 {n : Int} {l : List Int} (h : VoiN n l) : l.take 9 = l := List.take_of_length_le (by have := h.2.2.2.1; omega)
theorem lead_take {k : Nat} (hk : k ≤ 6) (l : List Int) : LeadOf k (l.take 9) ↔ LeadOf k l := by
  rcases Nat.lt_or_ge 9 l.length with h | h
  · constructor
    · intro hr; have := hr.1; rw [List.length_take] at this; omega
    · intro hr; have := hr.1; omega
  · rw [List.take_of_length_le h]
theorem awake_f : sackbutlaw06_awake.f = some true := by
  have h : TwoN 12 [0] [11] := by decide
  have e : voices_Cost.f 12 [0] [11] = some (1, 0) := by
    unfold voices_Cost.f
    rw [if_pos h]
    have : bestV 12 [0] [11] = (some [0], 1) := by decide
    rw [this]
  unfold sackbutlaw06_awake.f
  rw [e]
  rfl
theorem refMod_f {n x : Int} (hn : 2 ≤ n) (hn2 : n ≤ 16) : sackbutref06_mod.f x n = some (x % n) := by
  unfold sackbutref06_mod.f
  rw [if_neg (by omega), tmod_mod (by omega) (by omega)]
theorem refMove_f {n x y : Int} (hn : 2 ≤ n) (hn2 : n ≤ 16) (hx : 0 ≤ x ∧ x < n) (hy : 0 ≤ y ∧ y < n) : sackbutref06_Move.f n x y = some (mvN n x y) := by
  have h1 := Int.emod_nonneg (y - x) (show n ≠ 0 by omega)
  have h2 := Int.emod_lt_of_pos (y - x) (show 0 < n by omega)
  unfold sackbutref06_Move.f
  rw [wrap_id (n := y - x) (by omega) (by omega), refMod_f hn hn2, Option.bind_some, wrap_id (n := 2 * ((y - x) % n)) (by omega) (by omega)]
  unfold mvN
  by_cases h : 2 * ((y - x) % n) > n
  · rw [if_neg (by omega), if_pos h, wrap_id (by omega) (by omega)]
  · rw [if_pos (by omega), if_neg h]
theorem refDistance_f {n x y : Int} (hn : 2 ≤ n) (hn2 : n ≤ 16) (hx : 0 ≤ x ∧ x < n) (hy : 0 ≤ y ∧ y < n) : sackbutref06_Distance.f n x y = some (dsN n x y) := by
  have := mvN_bd (x := x) (y := y) hn
  unfold sackbutref06_Distance.f
  rw [refMove_f hn hn2 hx hy, Option.bind_some, Option.bind_some, wrap_id (by omega) (by omega), mx_eq]
  rfl
theorem refPrice_ev {n : Int} {a b : List Int} (ha : VoiN n a) (hb : VoiN n b) (full : List Int) (hf : full.length ≤ a.length) (hk : ∀ k ∈ full, 0 ≤ k ∧ k < b.length) : Ev (fun k => sackbutref06_Price.f k n a b full) (prI n a b full 0) := by
  obtain ⟨hn, hn2, ha1, ha2, hax⟩ := ha
  obtain ⟨_, _, hb1, hb2, hbx⟩ := hb
  have loop : ∀ (rest pre : List Int) (acc : Int), full = pre ++ rest → 0 ≤ acc → acc ≤ 16 * pre.length →
      Ev (fun k => sackbutref06_Price.l0 k n a b acc full (full.length : Int) (pre.length : Int)) (acc + prI n a b rest pre.length) := by
    intro rest
    induction rest with
    | nil =>
      intro pre acc hp h0 h1
      have p1 : ¬ (pre.length : Int) < (full.length : Int) := by rw [hp]; simp
      refine Ev.succ ?_
      simp only [sackbutref06_Price.l0, if_neg p1, prI, Int.add_zero]
      exact Ev.some _
    | cons x rest ih =>
      intro pre acc hp h0 h1
      have hlen : full.length = pre.length + (rest.length + 1) := by rw [hp]; simp
      have p1 : (pre.length : Int) < (full.length : Int) := by omega
      have p0 : (0 : Int) ≤ (pre.length : Int) := by omega
      have pa : (pre.length : Int) < (a.length : Int) := by omega
      have hrd : rd full (pre.length : Int) = x := mid_rd hp
      have hx := hk x (by rw [hp]; simp)
      have hda := getD_mem (l := a) (i := pre.length) (by omega)
      have hdb := getD_mem (l := b) (i := x.toNat) (by omega)
      have e1 : rd a (pre.length : Int) = a.getD pre.length 0 := rd_nat _ _
      have e2 : rd b x = b.getD x.toNat 0 := rfl
      have hd := dsN_bd (n := n) (x := a.getD pre.length 0) (y := b.getD x.toNat 0) hn
      have hdf := refDistance_f hn hn2 (hax _ hda) (hbx _ hdb)
      have hw : wrap64 ((pre.length : Int) + 1) = ((pre ++ [x]).length : Int) := by rw [wrap_id (by omega) (by omega)]; simp
      have hw2 : wrap64 (acc + dsN n (a.getD pre.length 0) (b.getD x.toNat 0)) = acc + dsN n (a.getD pre.length 0) (b.getD x.toNat 0) := wrap_id (by omega) (by omega)
      have hl1 : (pre ++ [x]).length = pre.length + 1 := by simp
      have go := ih (pre ++ [x]) (acc + dsN n (a.getD pre.length 0) (b.getD x.toNat 0)) (by rw [hp]; simp) (by omega) (by rw [hl1]; omega)
      rw [hl1] at go
      refine Ev.succ ?_
      simp only [sackbutref06_Price.l0, if_pos p1, if_pos p0, if_pos pa, hrd, if_pos hx.1, if_pos hx.2, e1, e2]
      refine Ev.bind_some hdf ?_
      rw [hw, hw2, hl1]
      simp only [prI]
      rw [← Int.add_assoc]
      exact go
  have h := loop full [] 0 rfl (Int.le_refl _) (by simp)
  rw [Int.zero_add] at h
  exact h

end Go.Proofs.Ytfjafmgaahfhgaa.P
namespace Go.Proofs.Ytfjafmgaahfhgaa.P
open Go.RowKit Go.Proofs.YtfjafmgaahfhgaaW.PrintWords Go.Proofs.YtfjafmgaahfhgaaW.PrintLast Go.Proofs.YtfjafmgaahfhgaaW.PrintMore
attribute [local go_sem] max2_int min2_int max_two min_two max_three min_three max_four min_four   -- for this text's walks alone
set_option linter.unusedVariables false
set_option linter.unusedSimpArgs false

/-! the document's first cheapest leading -/
def rstep (pr : List Nat → Int) (s : Option (List Nat)) (l : List Nat) : Option (List Nat) := match s with
  | none => some l
  | some b => if pr l < pr b then some l else some b
def rfold (pr : List Nat → Int) (L : List (List Nat)) : Option (List Nat) := L.foldl (rstep pr) none
theorem rfold_snoc (pr : List Nat → Int) (L : List (List Nat)) (l : List Nat) : rfold pr (L ++ [l]) = rstep pr (rfold pr L) l := by unfold rfold; rw [List.foldl_append]; rfl
theorem fold_same (pr : List Nat → Int) : ∀ (L : List (List Nat)) (s : Option (List Nat) × Int), (∀ b, s.1 = some b → s.2 = pr b) → (L.foldl (bstep pr (fun _ => true)) s).1 = L.foldl (rstep pr) s.1 ∧ ∀ b, (L.foldl (bstep pr (fun _ => true)) s).1 = some b → (L.foldl (bstep pr (fun _ => true)) s).2 = pr b
  | [], s, h => ⟨rfl, h⟩
  | l :: L, s, h => by
    rw [List.foldl_cons, List.foldl_cons]
    have h1 : (bstep pr (fun _ => true) s l).1 = rstep pr s.1 l ∧ ∀ b, (bstep pr (fun _ => true) s l).1 = some b → (bstep pr (fun _ => true) s l).2 = pr b := by
      obtain ⟨s1, s2⟩ := s
      cases s1 with
      | none =>
        unfold bstep rstep
        rw [if_pos ⟨.inl rfl, rfl⟩]
        exact ⟨rfl, fun b hb => by cases hb; rfl⟩
      | some b =>
        have hb := h b rfl
        simp only at hb
        unfold bstep rstep
        by_cases hlt : pr l < pr b
        · rw [if_pos ⟨.inr (by rw [hb]; exact hlt), rfl⟩]
          exact ⟨by simp only; rw [if_pos hlt], fun c hc => by cases hc; rfl⟩
        · rw [if_neg (fun h => h.1.elim (fun h => by cases h) (fun h => hlt (by rw [← hb]; exact h)))]
          exact ⟨by simp only; rw [if_neg hlt], fun c hc => by cases hc; exact hb⟩
    have := fold_same pr L (bstep pr (fun _ => true) s l) h1.2
    rw [h1.1] at this
    exact this
theorem best_ref (n : Int) (a b : List Int) : rfold (prV n a b) (rlead a.length a.length []) = (bestV n a b).1 ∧ ∀ l, (bestV n a b).1 = some l → (bestV n a b).2 = prV n a b l := by
  have h := fold_same (prV n a b) (ldg a.length a.length 0 []) (none, 0) (fun b hb => by cases hb)
  unfold bestV bfold rfold
  rw [← ldg_all]
  exact ⟨h.1.symm, h.2⟩
theorem add_block_ (a : Addr) (n : Nat) : (a.add n).block = a.block := by unfold Addr.add; split <;> rfl
theorem own_some_ {w : World} {base : Nat} {e : TypeId} {v : Value} {vs : List Value} (h : w.ownsRow base e 1 v vs.length vs) (hne : 0 < vs.length) : ∃ ad c, v = .slice (some ad) vs.length c ∧ (∀ j u, vs[j]? = some u → w.cell? (ad.add j) = some u) ∧ ad.block < w.heap.size := by
  obtain ⟨g, c, e1, hc⟩ := own_some h hne
  refine ⟨⟨g, 0, none⟩, c, e1, hc, own_lt h g (by rw [e1]; rfl)⟩
theorem rfold_mem (pr : List Nat → Int) : ∀ (L : List (List Nat)) (s : Option (List Nat)) (b : List Nat), L.foldl (rstep pr) s = some b → b ∈ L ∨ s = some b
  | [], s, b, h => .inr h
  | l :: L, s, b, h => by
    rw [List.foldl_cons] at h
    rcases rfold_mem pr L _ b h with h1 | h1
    · exact .inl (by simp [h1])
    · unfold rstep at h1
      split at h1
      · cases h1; exact .inl (by simp)
      · split at h1
        · cases h1; exact .inl (by simp)
        · exact .inr h1
def sackbutref06_Lead.f (a0 : Int) (l1 l2 : List Int) : Option (List Int) := if TwoN a0 l1 l2 then some (optL (bestV a0 l1 l2).1) else none
theorem rlead_all {k : Nat} : ∀ (r : Nat) (cur : List Nat), cur.length + r = k → (∀ y ∈ cur, y < k) → ∀ l ∈ rlead k r cur, l.length = k ∧ ∀ y ∈ l, y < k
  | 0, cur, h, hc, l, hl => by
    simp only [rlead, List.mem_singleton] at hl
    subst hl; exact ⟨by omega, hc⟩
  | r + 1, cur, h, hc, l, hl => by
    simp only [rlead, List.mem_flatMap, List.mem_range] at hl
    obtain ⟨x, hx, hl⟩ := hl
    split at hl
    · cases hl
    · exact rlead_all r (cur ++ [x]) (by rw [List.length_append, List.length_singleton]; omega) (fun y hy => by
        rcases List.mem_append.1 hy with h | h
        · exact hc y h
        · rw [List.mem_singleton] at h; omega) l hl
theorem refPrice_nums {n : Int} {a b : List Int} (h : TwoN n a b) (x : List Nat) (hx : x.length = a.length) (hl : ∀ y ∈ x, y < a.length) : ∃ kk, sackbutref06_Price.f kk n a b (nums x) = some (prV n a b x) :=
  Ev.rounds (g := fun k => sackbutref06_Price.f k n a b (nums x)) (refPrice_ev h.1 h.2.1 (nums x) (by rw [nums_length]; omega) (fun k hk => by
    unfold nums at hk
    rw [List.mem_map] at hk
    obtain ⟨y, hy, rfl⟩ := hk
    have := hl y hy
    have := h.2.2
    show (0 : Int) ≤ (y : Int) ∧ (y : Int) < _
    omega))
set_option maxHeartbeats 8000000 in
set_option maxRecDepth 100000 in
theorem sackbutref06_Lead.calls (a0 : Int) (A1 : Option Addr) (c1 : Nat) (l1 : List Int) (A2 : Option Addr) (c2 : Nat) (l2 : List Int) (r : List Int) (w : World) (hr1 : Kd.C (Kd.int .i64) w A1 l1.length l1) (hc1 : l1.length ≤ c1) (hr2 : Kd.C (Kd.int .i64) w A2 l2.length l2) (hc2 : l2.length ≤ c2) (h : sackbutref06_Lead.f a0 l1 l2 = some r) :
    Calls Try.prog 51 #[.int .i64 a0, .slice A1 l1.length c1, .slice A2 l2.length c2] w fun e w' => ∃ v0_ : Value, e = .returned v0_ ∧ Kd.R (Kd.int .i64) 3 w' w.heap.size (fun _ => True) v0_ r ∧ Below w.heap.size w w' := by
  unfold sackbutref06_Lead.f at h
  by_cases hc : TwoN a0 l1 l2
  · rw [if_pos hc] at h
    have hres := Option.some.inj h
    have HRES := Aside0.mk hres
    have HT := Aside0.mk hc
    have HR1 := Aside0.mk hr1
    have HR2 := Aside0.mk hr2
    have HC1 := Aside0.mk hc1
    have HC2 := Aside0.mk hc2
    have hn1 := hc.1.2.2.1
    have hn6 := hc.1.2.2.2.1
    obtain ⟨LL, hLL⟩ : ∃ LL, rlead l1.length l1.length [] = LL := ⟨_, rfl⟩
    have HLL := Aside0.mk hLL
    have hrun := refLeads_calls l1.length hn6 w.heap.size l1.length none 0 [] w (by simp) (Nat.le_refl _) (Kd.R_nil _ _ _ _ _)
    rw [hLL] at hrun
    have HRUN := Aside0.mk hrun
    have HALL := Aside0.mk (show ∀ l ∈ LL, l.length = l1.length ∧ ∀ y ∈ l, y < l1.length from fun l hl => by
      rw [← hLL] at hl
      exact rlead_all l1.length [] (by simp) (by simp) l hl)
    have hlenLL : LL.length ≤ 46656 := by
      rw [← hLL]
      exact Nat.le_trans (rlead_len _ _) (Nat.le_trans (Nat.pow_le_pow_left hn6 _) (Nat.pow_le_pow_right (by omega) hn6))
    have hposLL : 0 < LL.length := by rw [← hLL]; exact List.length_pos_iff.2 (rlead_ne _ _ (by simp))
    have HPR := Aside0.mk (fun l hl => refPrice_nums hc l (HALL.out l hl).1 (HALL.out l hl).2)
    have q22 : ∀ (w : World) (a : Option Addr) (n c n' c' : Nat), (binOp .eql 23 (.slice a n c) (.slice none n' c')).run Try.prog w = .ok (.bool a.isNone) w := fun w a n c n' c' => Lib.run_eql_slice_nil w _ _ a n c n' c' Try.underlying23
    clear hr1 hr2 hc1 hc2 hc h hres hrun hLL
    go_enter Try.func51, Try.ntmps51
    go_wp2_with fail
    refine HRUN.out.mono ?_
    rintro e w1 ⟨v1, vs, rfl, ho1, ha1, hb1⟩
    have hvl := ha1.length
    obtain ⟨ad, c9, e1, hcell, hg1⟩ := own_some_ ho1 (by omega)
    subst e1
    rw [hvl] at ho1 ⊢
    have HA1 := Aside0.mk ha1
    have HC := Aside0.mk hcell
    have HB1 := Aside0.mk hb1
    have HG1 := Aside0.mk hg1
    clear ho1 ha1 hcell hb1 hvl HRUN hg1
    go_wp2
    go_loopg [7, 14] LL.length (fun gg s7 s14 wr => ∃ (i : Nat) (Ab : Option Addr) (cb : Nat), s14 = .int .i64 i ∧ s7 = .slice Ab (optL (rfold (prV a0 l1 l2) (LL.take i))).length cb ∧ Aside0 (i + gg = LL.length) ∧ Aside0 (Kd.R (Kd.int .i64) 3 wr w.heap.size (fun _ => True) (.slice Ab (optL (rfold (prV a0 l1 l2) (LL.take i))).length cb) (optL (rfold (prV a0 l1 l2) (LL.take i)))) ∧ Aside0 (Ab.isNone = (rfold (prV a0 l1 l2) (LL.take i)).isNone) ∧ Aside0 (Below w1.heap.size w1 wr))
    case atStart => exact ⟨0, none, 0, rfl, by simp [rfold, optL, nums], ⟨by omega⟩, ⟨Kd.R_nil _ _ _ _ _⟩, ⟨rfl⟩, ⟨Below.refl _ _⟩⟩
    case round =>
      obtain ⟨i, Ab, cb, rfl, rfl, HI, HR, HN, HB⟩ := hrel
      obtain ⟨wo, rfl⟩ : ∃ wo : World, wo = wr := ⟨wr, rfl⟩
      by_cases hlt : i < LL.length
      · have hltz : (i : Int) < (LL.length : Int) := by omega
        obtain ⟨l, hl⟩ : ∃ l, LL[i]? = some l := ⟨LL[i], List.getElem?_eq_getElem hlt⟩
        have hlm : l ∈ LL := List.mem_of_getElem? hl
        obtain ⟨vl, hvl, A, c, e, hRl⟩ := HA1.out.get i l hl
        subst e
        have hcell : wo.cell? (ad.add i) = some (.slice A (nums l).length c) := (HB.out.cell (p := ad.add i) (by rw [add_block_]; exact HG1.out)).trans (HC.out i _ hvl)
        have hRw := Kd.R_below hRl HB.out
        have HRL := Aside0.mk hRw
        have HRLC := Aside0.mk (Kd.R_reads' hRw)
        have HTK := Aside0.mk (show LL.take (i + 1) = LL.take i ++ [l] by rw [List.take_add_one, hl]; rfl)
        obtain ⟨kk, hkk⟩ := HPR.out l hlm
        have HP1 := Aside0.mk (fun (w2 : World) (hb : Below wo.heap.size wo w2) => sackbutref06_Price.calls kk a0 A1 c1 l1 A2 c2 l2 A c (nums l) (prV a0 l1 l2 l) w2 (Kd.C_below (Kd.C_below (Kd.C_below HR1.out HB1.out) (HB.out.mono HB1.out.size |> fun h => HB.out)) hb) HC1.out (Kd.C_below (Kd.C_below (Kd.C_below HR2.out HB1.out) HB.out) hb) HC2.out (Kd.C_below HRLC.out.2.2 hb) HRLC.out.2.1 hkk)
        have HAS := Aside0.mk (show A.isNone = false from by
          obtain ⟨ad5, e5, _⟩ := Kd.at_int HRLC.out.2.2 0 (by omega) (by rw [nums_length, (HALL.out l hlm).1]; omega)
          rw [e5]; rfl)
        clear hl hlm hvl hRl hRw hkk
        have HRF := Aside0.mk (show rfold (prV a0 l1 l2) (LL.take (i + 1)) = rstep (prV a0 l1 l2) (rfold (prV a0 l1 l2) (LL.take i)) l by rw [HTK.out, rfold_snoc])
        have HMEM := Aside0.mk (fun b (hb : rfold (prV a0 l1 l2) (LL.take i) = some b) => HPR.out b (List.mem_of_mem_take ((rfold_mem _ _ _ b hb).elim id (fun h => by cases h))))
        generalize rfold (prV a0 l1 l2) (LL.take i) = bo at HR HN HRF HMEM ⊢
        have HRLB := HRL
        cases bo with
        | none =>
          have hAb : Ab = none := by
            have := HN.out
            cases Ab with
            | none => rfl
            | some _ => cases this
          subst hAb
          have HF := Aside0.mk (show rfold (prV a0 l1 l2) (LL.take (i + 1)) = some l from HRF.out)
          clear HMEM HRF
          generalize hoz : (optL (none : Option (List Nat))).length = oz
          clear hoz
          go_wp2
          go_roundg (gk - 1)
          case measure => have := HI.out; omega
          case rel => exact ⟨i + 1, A, c, by go_num, by rw [HF.out]; rfl, ⟨by have := HI.out; omega⟩, ⟨by rw [HF.out]; exact HRL.out⟩, ⟨by rw [HF.out]; exact HAS.out⟩, HB⟩
        | some b =>
          obtain ⟨ab, hAb⟩ : ∃ ab, Ab = some ab := by
            have := HN.out
            cases Ab with
            | none => cases this
            | some ab => exact ⟨ab, rfl⟩
          subst hAb
          obtain ⟨kk2, hkk2⟩ := HMEM.out b rfl
          have HF := Aside0.mk (show rfold (prV a0 l1 l2) (LL.take (i + 1)) = if prV a0 l1 l2 l < prV a0 l1 l2 b then some l else some b from HRF.out)
          have HRB := Aside0.mk (show Kd.R (Kd.int .i64) 3 wo w.heap.size (fun _ => True) (.slice (some ab) (nums b).length cb) (nums b) from HR.out)
          have HRBC := Aside0.mk (Kd.R_reads' HRB.out)
          have HP2 := Aside0.mk (fun (w2 : World) (hb : Below wo.heap.size wo w2) => sackbutref06_Price.calls kk2 a0 A1 c1 l1 A2 c2 l2 (some ab) cb (nums b) (prV a0 l1 l2 b) w2 (Kd.C_below (Kd.C_below (Kd.C_below HR1.out HB1.out) HB.out) hb) HC1.out (Kd.C_below (Kd.C_below (Kd.C_below HR2.out HB1.out) HB.out) hb) HC2.out (Kd.C_below HRBC.out.2.2 hb) HRBC.out.2.1 hkk2)
          clear HMEM HRF hkk2
          rw [show optL (some b) = nums b from rfl]
          generalize hlb : (nums b).length = lb at *
          have HLB := Aside0.mk hlb
          clear hlb
          generalize hp1 : prV a0 l1 l2 l = p1 at *
          have HP1E := Aside0.mk hp1
          clear hp1
          generalize hp2 : prV a0 l1 l2 b = p2 at *
          have HP2E := Aside0.mk hp2
          clear hp2
          by_cases hlt2 : p1 < p2
          · have q1 : decide (p1 < p2) = true := decide_eq_true hlt2
            rw [if_pos hlt2] at HF
            clear hlt2
            go_wp2_with fail
            refine (HP1.out _ (Below.refl _ _)).mono ?_
            rintro e w2 ⟨rfl, hb2⟩
            have HB2 := Aside0.mk hb2
            clear hb2
            go_wp2_with fail
            refine (HP2.out _ HB2.out).mono ?_
            rintro e w3 ⟨rfl, hb3⟩
            have HB3 := Aside0.mk (HB2.out.trans (hb3.mono HB2.out.size))
            clear hb3
            go_wp2
            go_roundg (gk - 1)
            case measure => have := HI.out; omega
            case rel => exact ⟨i + 1, A, c, by go_num, by rw [HF.out]; rfl, ⟨by have := HI.out; omega⟩, ⟨by rw [HF.out]; exact Kd.R_below HRL.out HB3.out⟩, ⟨by rw [HF.out]; exact HAS.out⟩, ⟨HB.out.trans (HB3.out.mono HB.out.size)⟩⟩
          · have q1 : decide (p1 < p2) = false := decide_eq_false hlt2
            rw [if_neg hlt2] at HF
            clear hlt2
            go_wp2_with fail
            refine (HP1.out _ (Below.refl _ _)).mono ?_
            rintro e w2 ⟨rfl, hb2⟩
            have HB2 := Aside0.mk hb2
            clear hb2
            go_wp2_with fail
            refine (HP2.out _ HB2.out).mono ?_
            rintro e w3 ⟨rfl, hb3⟩
            have HB3 := Aside0.mk (HB2.out.trans (hb3.mono HB2.out.size))
            clear hb3
            go_wp2
            go_roundg (gk - 1)
            case measure => have := HI.out; omega
            case rel => exact ⟨i + 1, some ab, cb, by go_num, by rw [HF.out, ← HLB.out]; rfl, ⟨by have := HI.out; omega⟩, ⟨by rw [HF.out]; have h5 := Kd.R_below HRB.out HB3.out; rw [← HLB.out] at h5; exact h5⟩, ⟨by rw [HF.out]; rfl⟩, ⟨HB.out.trans (HB3.out.mono HB.out.size)⟩⟩
      · have hil : i = LL.length := by have := HI.out; omega
        have HIL := Aside0.mk hil
        clear hil
        have hltz : ¬ (i : Int) < (LL.length : Int) := by omega
        have HFIN := Aside0.mk (show rfold (prV a0 l1 l2) (LL.take i) = (bestV a0 l1 l2).1 by
          rw [HIL.out, List.take_length, ← HLL.out]; exact (best_ref a0 l1 l2).1)
        go_wp2
        go_ret
        refine ⟨_, rfl, ?_, HB1.out.trans (HB.out.mono HB1.out.size)⟩
        have h1 := HR.out
        rw [HFIN.out] at h1
        rw [← HRES.out, ← HFIN.out]
        rw [← HFIN.out] at h1
        exact h1
  · rw [if_neg hc] at h; cases h

end Go.Proofs.Ytfjafmgaahfhgaa.P
namespace Go.Proofs.Ytfjafmgaahfhgaa.P
open Go.RowKit Go.Proofs.YtfjafmgaahfhgaaW.PrintWords Go.Proofs.YtfjafmgaahfhgaaW.PrintLast Go.Proofs.YtfjafmgaahfhgaaW.PrintMore
attribute [local go_sem] max2_int min2_int max_two min_two max_three min_three max_four min_four   -- for this text's walks alone
set_option linter.unusedVariables false
set_option linter.unusedSimpArgs false

/-! ### sackbutref06_Cost: function 25 -/
def sackbutref06_Cost.f (k : Nat) (a0 : Int) (l1 : List Int) (l2 : List Int) : Option (Int) := (sackbutref06_Lead.f a0 l1 l2).bind fun t1001 => ((sackbutref06_Price.f k a0 l1 l2 t1001).bind fun t1004 => (some t1004))
theorem sackbutref06_Cost.mono : ∀ a0 a1 a2 k, LeO (sackbutref06_Cost.f k a0 a1 a2) (sackbutref06_Cost.f (k + 1) a0 a1 a2) := by
  intro a0 a1 a2 k
  unfold sackbutref06_Cost.f
  repeat' first
      | (with_reducible exact sackbutref06_Price.mono _ _ _ _ _)
      | (with_reducible exact LeO.refl _)
      | (with_reducible exact LeO.none _)
      | (with_reducible refine LeO.ite ?_ ?_)
      | (with_reducible refine LeO.bind ?_ (fun _ => ?_))
      | exact sackbutref06_Price.mono _ _ _ _ _
      | exact LeO.none _
      | refine LeO.ite ?_ ?_
      | refine LeO.bind ?_ (fun _ => ?_)
set_option maxHeartbeats 8000000 in
set_option maxRecDepth 100000 in
theorem sackbutref06_Cost.calls (k : Nat) (a0 : Int) (A1 : Option Addr) (c1 : Nat) (l1 : List Int) (A2 : Option Addr) (c2 : Nat) (l2 : List Int) (r : Int) (w : World) (hr1 : Kd.C (Kd.int .i64) w A1 l1.length l1) (hc1 : l1.length ≤ c1) (hr2 : Kd.C (Kd.int .i64) w A2 l2.length l2) (hc2 : l2.length ≤ c2) (h : sackbutref06_Cost.f k a0 l1 l2 = some r) :
    Calls Try.prog 25 #[.int .i64 a0, .slice A1 l1.length c1, .slice A2 l2.length c2] w fun e w' => e = .returned (.int .i64 r) ∧ Below w.heap.size w w' := by
  have HR1 := Aside0.mk hr1
  have HC1 := Aside0.mk hc1
  clear hr1 hc1
  have HR2 := Aside0.mk hr2
  have HC2 := Aside0.mk hc2
  clear hr2 hc2
  have HB := Aside0.mk (Below.refl w.heap.size w)
  have H : ((sackbutref06_Lead.f a0 l1 l2).bind fun t1001 => ((sackbutref06_Price.f k a0 l1 l2 t1001).bind fun t1004 => (some t1004))) = some r := h
  clear h
  replace H := Option.bind_eq_some_iff.mp H
  obtain ⟨t1001, A40, H⟩ := H
  replace H : ((sackbutref06_Price.f k a0 l1 l2 t1001).bind fun t1004 => (some t1004)) = some r := H
  have A4 := Aside0.mk A40
  clear A40
  replace H := Option.bind_eq_some_iff.mp H
  obtain ⟨t1004, A50, H⟩ := H
  replace H : (some t1004) = some r := H
  have A5 := Aside0.mk A50
  clear A50
  obtain rfl := Option.some.inj H
  go_enter Try.func25, Try.ntmps25
  go_wp2_with (first | ((with_reducible refine gate_callee (f := 51) rfl ?_); refine goesL_ (some 13) rfl rfl Try.func51 (by kernel_rfl) rfl #[.int .i64 a0, .slice A1 l1.length c1, .slice A2 l2.length c2] rfl (by (try simp only [List.map_toArray, List.map_cons, List.map_nil]); first | done | rfl | (simp only [List.length_drop, List.length_take]; rfl)) ?_; (with_reducible refine (sackbutref06_Lead.calls a0 _ _ l1 _ _ l2 t1001 _ ?side1 ?side2 ?side3 ?side4 A4.out).mono ?_); (case side1 => repeat (first | exact HR1.out | (with_reducible refine Kd.C_alloc ?_ _) | (with_reducible refine Kd.C_drewN ?_ _) | (with_reducible refine Kd.C_drew ?_))); (case side2 => exact HC1.out); (case side3 => repeat (first | exact HR2.out | (with_reducible refine Kd.C_alloc ?_ _) | (with_reducible refine Kd.C_drewN ?_ _) | (with_reducible refine Kd.C_drew ?_))); (case side4 => exact HC2.out); rintro e w6 ⟨v1002, rfl, ho0, hb⟩; refine ⟨_, rfl, ?_⟩; have n0_ := Aside0.mk (Kd.R_lower ho0 (below_size (by repeat (first | (with_reducible first | exact HB.out | apply below_alloc | apply pw_below_drewN | apply below_drew1) | exact HB.out)))); have n1_ := Aside0.mk (below_step (by repeat (first | (with_reducible first | exact HB.out | apply below_alloc | apply pw_below_drewN | apply below_drew1) | exact HB.out)) hb); clear HB; have HO1003 := n0_; have HB := n1_; clear n0_ n1_; (try clear hb); (try clear hb2); (try clear hk); (try clear hi); (try clear ho0); obtain ⟨Ao7, co7, eo7⟩ := Kd.R_slice HO1003.out; subst eo7) | ((with_reducible refine gate_callee (f := 50) rfl ?_); refine goesL_ (some 14) rfl rfl Try.func50 (by kernel_rfl) rfl #[.int .i64 a0, .slice A1 l1.length c1, .slice A2 l2.length c2, .slice Ao7 t1001.length co7] rfl (by (try simp only [List.map_toArray, List.map_cons, List.map_nil]); first | done | rfl | (simp only [List.length_drop, List.length_take]; rfl)) ?_; (with_reducible refine (sackbutref06_Price.calls k a0 _ _ l1 _ _ l2 _ _ t1001 t1004 _ ?side1 ?side2 ?side3 ?side4 ?side5 ?side6 A5.out).mono ?_); (case side1 => repeat (first | exact (Kd.C_below HR1.out HB.out) | (with_reducible refine Kd.C_alloc ?_ _) | (with_reducible refine Kd.C_drewN ?_ _) | (with_reducible refine Kd.C_drew ?_))); (case side2 => exact HC1.out); (case side3 => repeat (first | exact (Kd.C_below HR2.out HB.out) | (with_reducible refine Kd.C_alloc ?_ _) | (with_reducible refine Kd.C_drewN ?_ _) | (with_reducible refine Kd.C_drew ?_))); (case side4 => exact HC2.out); (case side5 => repeat (first | exact (Kd.R_reads' HO1003.out).2.2 | (with_reducible refine Kd.C_alloc ?_ _) | (with_reducible refine Kd.C_drewN ?_ _) | (with_reducible refine Kd.C_drew ?_))); (case side6 => exact (Kd.R_reads' HO1003.out).2.1); rintro e w8 ⟨rfl, hb⟩; refine ⟨_, rfl, ?_⟩; have n0_ := Aside0.mk (Kd.R_below (by (with_reducible repeat (first | apply Kd.R_alloc | apply Kd.R_drewN | apply Kd.R_drew)); exact HO1003.out) hb); have n1_ := Aside0.mk (below_step (by repeat (first | (with_reducible first | exact HB.out | apply below_alloc | apply pw_below_drewN | apply below_drew1) | exact HB.out)) hb); clear HO1003; clear HB; have HO1003 := n0_; have HB := n1_; clear n0_ n1_; (try clear hb); (try clear hb2); (try clear hk); (try clear hi)))
  go_ret
  exact ⟨by first | rfl | (simp [errW_none, errW_some] <;> rfl) | (simp [*, errW_none, errW_some] <;> rfl), by repeat (first | (with_reducible first | exact HB.out | apply below_alloc | apply pw_below_drewN | apply below_drew1) | exact HB.out)⟩

end Go.Proofs.Ytfjafmgaahfhgaa.P
