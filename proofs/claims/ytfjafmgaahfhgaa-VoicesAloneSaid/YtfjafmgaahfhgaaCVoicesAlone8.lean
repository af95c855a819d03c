/- Proved here: the Go function sackbutlaw06.VoicesAlone returns true for every input (its printed form comes to true), whatever its arguments. Conditions: none beyond the row's own reach in memory. -/
import Derived.Laws.EntriesVeiled
import Derived.Deep.Matrix
import Derived.OpenShut
import Derived.Test.YtfjafmgaahfhgaaRows
import Derived.WalkKit
import Derived.ProofKit
import Derived.ShutString
import Derived.ChangeOld
import Derived.Below
import Derived.SizedLaws
import Derived.Test.YtfjafmgaahfhgaaWSized
import Derived.Test.YtfjafmgaahfhgaaCVoicesAlone1
import Derived.Test.YtfjafmgaahfhgaaCVoicesAlone2
import Derived.Test.YtfjafmgaahfhgaaCVoicesAlone3
import Derived.Test.YtfjafmgaahfhgaaCVoicesAlone4
import Derived.Test.YtfjafmgaahfhgaaCVoicesAlone5
import Derived.Test.YtfjafmgaahfhgaaCVoicesAlone6
import Derived.Test.YtfjafmgaahfhgaaCVoicesAlone7
namespace Go.Proofs.Ytfjafmgaahfhgaa.P
open Go.RowKit Go.Proofs.YtfjafmgaahfhgaaW.PrintWords Go.Proofs.YtfjafmgaahfhgaaW.PrintLast Go.Proofs.YtfjafmgaahfhgaaW.PrintMore
attribute [local go_sem] max2_int min2_int max_two min_two max_three min_three max_four min_four   -- for this text's walks alone
set_option linter.unusedVariables false
set_option linter.unusedSimpArgs false

/-! the document's first cheapest leading -/
def rstep (pr : List Nat → Int) (s : Option (List Nat)) (l : List Nat) : Option (List Nat) := match s with
  | none => some l
  | some b => if pr l < pr b then some l else some b
def rfold (pr : List Nat → Int) (L : List (List Nat)) : Option (List Nat) := L.foldl (rstep pr) none
theorem rfold_snoc (pr : List Nat → Int) (L : List (List Nat)) (l : List Nat) : rfold pr (L ++ [l]) = rstep pr (rfold pr L) l := by unfold rfold; rw [List.foldl_append]; rfl
theorem fold_same (pr : List Nat → Int) : ∀ (L : List (List Nat)) (s : Option (List Nat) × Int), (∀ b, s.1 = some b → s.2 = pr b) → (L.foldl (bstep pr (fun _ => true)) s).1 = L.foldl (rstep pr) s.1 ∧ ∀ b, (L.foldl (bstep pr (fun _ => true)) s).1 = some b → (L.foldl (bstep pr (fun _ => true)) s).2 = pr b
  | [], s, h => ⟨rfl, h⟩
  | l :: L, s, h => by
    rw [List.foldl_cons, List.foldl_cons]
    have h1 : (bstep pr (fun _ => true) s l).1 = rstep pr s.1 l ∧ ∀ b, (bstep pr (fun _ => true) s l).1 = some b → (bstep pr (fun _ => true) s l).2 = pr b := by
      obtain ⟨s1, s2⟩ := s
      cases s1 with
      | none =>
        unfold bstep rstep
        rw [if_pos ⟨.inl rfl, rfl⟩]
        exact ⟨rfl, fun b hb => by cases hb; rfl⟩
      | some b =>
        have hb := h b rfl
        simp only at hb
        unfold bstep rstep
        by_cases hlt : pr l < pr b
        · rw [if_pos ⟨.inr (by rw [hb]; exact hlt), rfl⟩]
          exact ⟨by simp only; rw [if_pos hlt], fun c hc => by cases hc; rfl⟩
        · rw [if_neg (fun h => h.1.elim (fun h => by cases h) (fun h => hlt (by rw [← hb]; exact h)))]
          exact ⟨by simp only; rw [if_neg hlt], fun c hc => by cases hc; exact hb⟩
    have := fold_same pr L (bstep pr (fun _ => true) s l) h1.2
    rw [h1.1] at this
    exact this
theorem best_ref (n : Int) (a b : List Int) : rfold (prV n a b) (rlead a.length a.length []) = (bestV n a b).1 ∧ ∀ l, (bestV n a b).1 = some l → (bestV n a b).2 = prV n a b l := by
  have h := fold_same (prV n a b) (ldg a.length a.length 0 []) (none, 0) (fun b hb => by cases hb)
  unfold bestV bfold rfold
  rw [← ldg_all]
  exact ⟨h.1.symm, h.2⟩
theorem add_block_ (a : Addr) (n : Nat) : (a.add n).block = a.block := by unfold Addr.add; split <;> rfl
theorem own_some_ {w : World} {base : Nat} {e : TypeId} {v : Value} {vs : List Value} (h : w.ownsRow base e 1 v vs.length vs) (hne : 0 < vs.length) : ∃ ad c, v = .slice (some ad) vs.length c ∧ (∀ j u, vs[j]? = some u → w.cell? (ad.add j) = some u) ∧ ad.block < w.heap.size := by
  obtain ⟨g, c, e1, hc⟩ := own_some h hne
  refine ⟨⟨g, 0, none⟩, c, e1, hc, own_lt h g (by rw [e1]; rfl)⟩
theorem rfold_mem (pr : List Nat → Int) : ∀ (L : List (List Nat)) (s : Option (List Nat)) (b : List Nat), L.foldl (rstep pr) s = some b → b ∈ L ∨ s = some b
  | [], s, b, h => .inr h
  | l :: L, s, b, h => by
    rw [List.foldl_cons] at h
    rcases rfold_mem pr L _ b h with h1 | h1
    · exact .inl (by simp [h1])
    · unfold rstep at h1
      split at h1
      · cases h1; exact .inl (by simp)
      · split at h1
        · cases h1; exact .inl (by simp)
        · exact .inr h1
def sackbutref06_Lead.f (a0 : Int) (l1 l2 : List Int) : Option (List Int) := if TwoN a0 l1 l2 then some (optL (bestV a0 l1 l2).1) else none
theorem rlead_all {k : Nat} : ∀ (r : Nat) (cur : List Nat), cur.length + r = k → (∀ y ∈ cur, y < k) → ∀ l ∈ rlead k r cur, l.length = k ∧ ∀ y ∈ l, y < k
  | 0, cur, h, hc, l, hl => by
    simp only [rlead, List.mem_singleton] at hl
    subst hl; exact ⟨by omega, hc⟩
  | r + 1, cur, h, hc, l, hl => by
    simp only [rlead, List.mem_flatMap, List.mem_range] at hl
    obtain ⟨x, hx, hl⟩ := hl
    split at hl
    · cases hl
    · exact rlead_all r (cur ++ [x]) (by rw [List.length_append, List.length_singleton]; omega) (fun y hy => by
        rcases List.mem_append.1 hy with h | h
        · exact hc y h
        · rw [List.mem_singleton] at h; omega) l hl
theorem refPrice_nums {n : Int} {a b : List Int} (h : TwoN n a b) (x : List Nat) (hx : x.length = a.length) (hl : ∀ y ∈ x, y < a.length) : ∃ kk, sackbutref06_Price.f kk n a b (nums x) = some (prV n a b x) :=
  Ev.rounds (g := fun k => sackbutref06_Price.f k n a b (nums x)) (refPrice_ev h.1 h.2.1 (nums x) (by rw [nums_length]; omega) (fun k hk => by
    unfold nums at hk
    rw [List.mem_map] at hk
    obtain ⟨y, hy, rfl⟩ := hk
    have := hl y hy
    have := h.2.2
    show (0 : Int) ≤ (y : Int) ∧ (y : Int) < _
    omega))
set_option maxHeartbeats 8000000 in
set_option maxRecDepth 100000 in
theorem sackbutref06_Lead.calls (a0 : Int) (A1 : Option Addr) (c1 : Nat) (l1 : List Int) (A2 : Option Addr) (c2 : Nat) (l2 : List Int) (r : List Int) (w : World) (hr1 : Kd.C (Kd.int .i64) w A1 l1.length l1) (hc1 : l1.length ≤ c1) (hr2 : Kd.C (Kd.int .i64) w A2 l2.length l2) (hc2 : l2.length ≤ c2) (h : sackbutref06_Lead.f a0 l1 l2 = some r) :
    Calls Try.prog 51 #[.int .i64 a0, .slice A1 l1.length c1, .slice A2 l2.length c2] w fun e w' => ∃ v0_ : Value, e = .returned v0_ ∧ Kd.R (Kd.int .i64) 3 w' w.heap.size (fun _ => True) v0_ r ∧ Below w.heap.size w w' := by
  unfold sackbutref06_Lead.f at h
  by_cases hc : TwoN a0 l1 l2
  · rw [if_pos hc] at h
    have hres := Option.some.inj h
    have HRES := Aside0.mk hres
    have HT := Aside0.mk hc
    have HR1 := Aside0.mk hr1
    have HR2 := Aside0.mk hr2
    have HC1 := Aside0.mk hc1
    have HC2 := Aside0.mk hc2
    have hn1 := hc.1.2.2.1
    have hn6 := hc.1.2.2.2.1
    obtain ⟨LL, hLL⟩ : ∃ LL, rlead l1.length l1.length [] = LL := ⟨_, rfl⟩
    have HLL := Aside0.mk hLL
    have hrun := refLeads_calls l1.length hn6 w.heap.size l1.length none 0 [] w (by simp) (Nat.le_refl _) (Kd.R_nil _ _ _ _ _)
    rw [hLL] at hrun
    have HRUN := Aside0.mk hrun
    have HALL := Aside0.mk (show ∀ l ∈ LL, l.length = l1.length ∧ ∀ y ∈ l, y < l1.length from fun l hl => by
      rw [← hLL] at hl
      exact rlead_all l1.length [] (by simp) (by simp) l hl)
    have hlenLL : LL.length ≤ 46656 := by
      rw [← hLL]
      exact Nat.le_trans (rlead_len _ _) (Nat.le_trans (Nat.pow_le_pow_left hn6 _) (Nat.pow_le_pow_right (by omega) hn6))
    have hposLL : 0 < LL.length := by rw [← hLL]; exact List.length_pos_iff.2 (rlead_ne _ _ (by simp))
    have HPR := Aside0.mk (fun l hl => refPrice_nums hc l (HALL.out l hl).1 (HALL.out l hl).2)
    have q22 : ∀ (w : World) (a : Option Addr) (n c n' c' : Nat), (binOp .eql 23 (.slice a n c) (.slice none n' c')).run Try.prog w = .ok (.bool a.isNone) w := fun w a n c n' c' => Lib.run_eql_slice_nil w _ _ a n c n' c' Try.underlying23
    clear hr1 hr2 hc1 hc2 hc h hres hrun hLL
    go_enter Try.func51, Try.ntmps51
    go_wp2_with fail
    refine HRUN.out.mono ?_
    rintro e w1 ⟨v1, vs, rfl, ho1, ha1, hb1⟩
    have hvl := ha1.length
    obtain ⟨ad, c9, e1, hcell, hg1⟩ := own_some_ ho1 (by omega)
    subst e1
    rw [hvl] at ho1 ⊢
    have HA1 := Aside0.mk ha1
    have HC := Aside0.mk hcell
    have HB1 := Aside0.mk hb1
    have HG1 := Aside0.mk hg1
    clear ho1 ha1 hcell hb1 hvl HRUN hg1
    go_wp2
    go_loopg [7, 14] LL.length (fun gg s7 s14 wr => ∃ (i : Nat) (Ab : Option Addr) (cb : Nat), s14 = .int .i64 i ∧ s7 = .slice Ab (optL (rfold (prV a0 l1 l2) (LL.take i))).length cb ∧ Aside0 (i + gg = LL.length) ∧ Aside0 (Kd.R (Kd.int .i64) 3 wr w.heap.size (fun _ => True) (.slice Ab (optL (rfold (prV a0 l1 l2) (LL.take i))).length cb) (optL (rfold (prV a0 l1 l2) (LL.take i)))) ∧ Aside0 (Ab.isNone = (rfold (prV a0 l1 l2) (LL.take i)).isNone) ∧ Aside0 (Below w1.heap.size w1 wr))
    case atStart => exact ⟨0, none, 0, rfl, by simp [rfold, optL, nums], ⟨by omega⟩, ⟨Kd.R_nil _ _ _ _ _⟩, ⟨rfl⟩, ⟨Below.refl _ _⟩⟩
    case round =>
      obtain ⟨i, Ab, cb, rfl, rfl, HI, HR, HN, HB⟩ := hrel
      obtain ⟨wo, rfl⟩ : ∃ wo : World, wo = wr := ⟨wr, rfl⟩
      by_cases hlt : i < LL.length
      · have hltz : (i : Int) < (LL.length : Int) := by omega
        obtain ⟨l, hl⟩ : ∃ l, LL[i]? = some l := ⟨LL[i], List.getElem?_eq_getElem hlt⟩
        have hlm : l ∈ LL := List.mem_of_getElem? hl
        obtain ⟨vl, hvl, A, c, e, hRl⟩ := HA1.out.get i l hl
        subst e
        have hcell : wo.cell? (ad.add i) = some (.slice A (nums l).length c) := (HB.out.cell (p := ad.add i) (by rw [add_block_]; exact HG1.out)).trans (HC.out i _ hvl)
        have hRw := Kd.R_below hRl HB.out
        have HRL := Aside0.mk hRw
        have HRLC := Aside0.mk (Kd.R_reads' hRw)
        have HTK := Aside0.mk (show LL.take (i + 1) = LL.take i ++ [l] by rw [List.take_add_one, hl]; rfl)
        obtain ⟨kk, hkk⟩ := HPR.out l hlm
        have HP1 := Aside0.mk (fun (w2 : World) (hb : Below wo.heap.size wo w2) => sackbutref06_Price.calls kk a0 A1 c1 l1 A2 c2 l2 A c (nums l) (prV a0 l1 l2 l) w2 (Kd.C_below (Kd.C_below (Kd.C_below HR1.out HB1.out) (HB.out.mono HB1.out.size |> fun h => HB.out)) hb) HC1.out (Kd.C_below (Kd.C_below (Kd.C_below HR2.out HB1.out) HB.out) hb) HC2.out (Kd.C_below HRLC.out.2.2 hb) HRLC.out.2.1 hkk)
        have HAS := Aside0.mk (show A.isNone = false from by
          obtain ⟨ad5, e5, _⟩ := Kd.at_int HRLC.out.2.2 0 (by omega) (by rw [nums_length, (HALL.out l hlm).1]; omega)
          rw [e5]; rfl)
        clear hl hlm hvl hRl hRw hkk
        have HRF := Aside0.mk (show rfold (prV a0 l1 l2) (LL.take (i + 1)) = rstep (prV a0 l1 l2) (rfold (prV a0 l1 l2) (LL.take i)) l by rw [HTK.out, rfold_snoc])
        have HMEM := Aside0.mk (fun b (hb : rfold (prV a0 l1 l2) (LL.take i) = some b) => HPR.out b (List.mem_of_mem_take ((rfold_mem _ _ _ b hb).elim id (fun h => by cases h))))
        generalize rfold (prV a0 l1 l2) (LL.take i) = bo at HR HN HRF HMEM ⊢
        have HRLB := HRL
        cases bo with
        | none =>
          have hAb : Ab = none := by
            have := HN.out
            cases Ab with
            | none => rfl
            | some _ => cases this
          subst hAb
          have HF := Aside0.mk (show rfold (prV a0 l1 l2) (LL.take (i + 1)) = some l from HRF.out)
          clear HMEM HRF
          generalize hoz : (optL (none : Option (List Nat))).length = oz
          clear hoz
          go_wp2
          go_roundg (gk - 1)
          case measure => have := HI.out; omega
          case rel => exact ⟨i + 1, A, c, by go_num, by rw [HF.out]; rfl, ⟨by have := HI.out; omega⟩, ⟨by rw [HF.out]; exact HRL.out⟩, ⟨by rw [HF.out]; exact HAS.out⟩, HB⟩
        | some b =>
          obtain ⟨ab, hAb⟩ : ∃ ab, Ab = some ab := by
            have := HN.out
            cases Ab with
            | none => cases this
            | some ab => exact ⟨ab, rfl⟩
          subst hAb
          obtain ⟨kk2, hkk2⟩ := HMEM.out b rfl
          have HF := Aside0.mk (show rfold (prV a0 l1 l2) (LL.take (i + 1)) = if prV a0 l1 l2 l < prV a0 l1 l2 b then some l else some b from HRF.out)
          have HRB := Aside0.mk (show Kd.R (Kd.int .i64) 3 wo w.heap.size (fun _ => True) (.slice (some ab) (nums b).length cb) (nums b) from HR.out)
          have HRBC := Aside0.mk (Kd.R_reads' HRB.out)
          have HP2 := Aside0.mk (fun (w2 : World) (hb : Below wo.heap.size wo w2) => sackbutref06_Price.calls kk2 a0 A1 c1 l1 A2 c2 l2 (some ab) cb (nums b) (prV a0 l1 l2 b) w2 (Kd.C_below (Kd.C_below (Kd.C_below HR1.out HB1.out) HB.out) hb) HC1.out (Kd.C_below (Kd.C_below (Kd.C_below HR2.out HB1.out) HB.out) hb) HC2.out (Kd.C_below HRBC.out.2.2 hb) HRBC.out.2.1 hkk2)
          clear HMEM HRF hkk2
          rw [show optL (some b) = nums b from rfl]
          generalize hlb : (nums b).length = lb at *
          have HLB := Aside0.mk hlb
          clear hlb
          generalize hp1 : prV a0 l1 l2 l = p1 at *
          have HP1E := Aside0.mk hp1
          clear hp1
          generalize hp2 : prV a0 l1 l2 b = p2 at *
          have HP2E := Aside0.mk hp2
          clear hp2
          by_cases hlt2 : p1 < p2
          · have q1 : decide (p1 < p2) = true := decide_eq_true hlt2
            rw [if_pos hlt2] at HF
            clear hlt2
            go_wp2_with fail
            refine (HP1.out _ (Below.refl _ _)).mono ?_
            rintro e w2 ⟨rfl, hb2⟩
            have HB2 := Aside0.mk hb2
            clear hb2
            go_wp2_with fail
            refine (HP2.out _ HB2.out).mono ?_
            rintro e w3 ⟨rfl, hb3⟩
            have HB3 := Aside0.mk (HB2.out.trans (hb3.mono HB2.out.size))
            clear hb3
            go_wp2
            go_roundg (gk - 1)
            case measure => have := HI.out; omega
            case rel => exact ⟨i + 1, A, c, by go_num, by rw [HF.out]; rfl, ⟨by have := HI.out; omega⟩, ⟨by rw [HF.out]; exact Kd.R_below HRL.out HB3.out⟩, ⟨by rw [HF.out]; exact HAS.out⟩, ⟨HB.out.trans (HB3.out.mono HB.out.size)⟩⟩
          · have q1 : decide (p1 < p2) = false := decide_eq_false hlt2
            rw [if_neg hlt2] at HF
            clear hlt2
            go_wp2_with fail
            refine (HP1.out _ (Below.refl _ _)).mono ?_
            rintro e w2 ⟨rfl, hb2⟩
            have HB2 := Aside0.mk hb2
            clear hb2
            go_wp2_with fail
            refine (HP2.out _ HB2.out).mono ?_
            rintro e w3 ⟨rfl, hb3⟩
            have HB3 := Aside0.mk (HB2.out.trans (hb3.mono HB2.out.size))
            clear hb3
            go_wp2
            go_roundg (gk - 1)
            case measure => have := HI.out; omega
            case rel => exact ⟨i + 1, some ab, cb, by go_num, by rw [HF.out, ← HLB.out]; rfl, ⟨by have := HI.out; omega⟩, ⟨by rw [HF.out]; have h5 := Kd.R_below HRB.out HB3.out; rw [← HLB.out] at h5; exact h5⟩, ⟨by rw [HF.out]; rfl⟩, ⟨HB.out.trans (HB3.out.mono HB.out.size)⟩⟩
      · have hil : i = LL.length := by have := HI.out; omega
        have HIL := Aside0.mk hil
        clear hil
        have hltz : ¬ (i : Int) < (LL.length : Int) := by omega
        have HFIN := Aside0.mk (show rfold (prV a0 l1 l2) (LL.take i) = (bestV a0 l1 l2).1 by
          rw [HIL.out, List.take_length, ← HLL.out]; exact (best_ref a0 l1 l2).1)
        go_wp2
        go_ret
        refine ⟨_, rfl, ?_, HB1.out.trans (HB.out.mono HB1.out.size)⟩
        have h1 := HR.out
        rw [HFIN.out] at h1
        rw [← HRES.out, ← HFIN.out]
        rw [← HFIN.out] at h1
        exact h1
  · rw [if_neg hc] at h; cases h

end Go.Proofs.Ytfjafmgaahfhgaa.P
namespace Go.Proofs.Ytfjafmgaahfhgaa.P
open Go.RowKit Go.Proofs.YtfjafmgaahfhgaaW.PrintWords Go.Proofs.YtfjafmgaahfhgaaW.PrintLast Go.Proofs.YtfjafmgaahfhgaaW.PrintMore
attribute [local go_sem] max2_int min2_int max_two min_two max_three min_three max_four min_four   -- for this text's walks alone
set_option linter.unusedVariables false
set_option linter.unusedSimpArgs false

/-! ### sackbutref06_Cost: function 25 -/
def sackbutref06_Cost.f (k : Nat) (a0 : Int) (l1 : List Int) (l2 : List Int) : Option (Int) := (sackbutref06_Lead.f a0 l1 l2).bind fun t1001 => ((sackbutref06_Price.f k a0 l1 l2 t1001).bind fun t1004 => (some t1004))
theorem sackbutref06_Cost.mono : ∀ a0 a1 a2 k, LeO (sackbutref06_Cost.f k a0 a1 a2) (sackbutref06_Cost.f (k + 1) a0 a1 a2) := by
  intro a0 a1 a2 k
  unfold sackbutref06_Cost.f
  repeat' first
      | (with_reducible exact sackbutref06_Price.mono _ _ _ _ _)
      | (with_reducible exact LeO.refl _)
      | (with_reducible exact LeO.none _)
      | (with_reducible refine LeO.ite ?_ ?_)
      | (with_reducible refine LeO.bind ?_ (fun _ => ?_))
      | exact sackbutref06_Price.mono _ _ _ _ _
      | exact LeO.none _
      | refine LeO.ite ?_ ?_
      | refine LeO.bind ?_ (fun _ => ?_)
set_option maxHeartbeats 8000000 in
set_option maxRecDepth 100000 in
theorem sackbutref06_Cost.calls (k : Nat) (a0 : Int) (A1 : Option Addr) (c1 : Nat) (l1 : List Int) (A2 : Option Addr) (c2 : Nat) (l2 : List Int) (r : Int) (w : World) (hr1 : Kd.C (Kd.int .i64) w A1 l1.length l1) (hc1 : l1.length ≤ c1) (hr2 : Kd.C (Kd.int .i64) w A2 l2.length l2) (hc2 : l2.length ≤ c2) (h : sackbutref06_Cost.f k a0 l1 l2 = some r) :
    Calls Try.prog 25 #[.int .i64 a0, .slice A1 l1.length c1, .slice A2 l2.length c2] w fun e w' => e = .returned (.int .i64 r) ∧ Below w.heap.size w w' := by
  have HR1 := Aside0.mk hr1
  have HC1 := Aside0.mk hc1
  clear hr1 hc1
  have HR2 := Aside0.mk hr2
  have HC2 := Aside0.mk hc2
  clear hr2 hc2
  have HB := Aside0.mk (Below.refl w.heap.size w)
  have H : ((sackbutref06_Lead.f a0 l1 l2).bind fun t1001 => ((sackbutref06_Price.f k a0 l1 l2 t1001).bind fun t1004 => (some t1004))) = some r := h
  clear h
  replace H := Option.bind_eq_some_iff.mp H
  obtain ⟨t1001, A40, H⟩ := H
  replace H : ((sackbutref06_Price.f k a0 l1 l2 t1001).bind fun t1004 => (some t1004)) = some r := H
  have A4 := Aside0.mk A40
  clear A40
  replace H := Option.bind_eq_some_iff.mp H
  obtain ⟨t1004, A50, H⟩ := H
  replace H : (some t1004) = some r := H
  have A5 := Aside0.mk A50
  clear A50
  obtain rfl := Option.some.inj H
  go_enter Try.func25, Try.ntmps25
  go_wp2_with (first | ((with_reducible refine gate_callee (f := 51) rfl ?_); refine goesL_ (some 13) rfl rfl Try.func51 (by kernel_rfl) rfl #[.int .i64 a0, .slice A1 l1.length c1, .slice A2 l2.length c2] rfl (by (try simp only [List.map_toArray, List.map_cons, List.map_nil]); first | done | rfl | (simp only [List.length_drop, List.length_take]; rfl)) ?_; (with_reducible refine (sackbutref06_Lead.calls a0 _ _ l1 _ _ l2 t1001 _ ?side1 ?side2 ?side3 ?side4 A4.out).mono ?_); (case side1 => repeat (first | exact HR1.out | (with_reducible refine Kd.C_alloc ?_ _) | (with_reducible refine Kd.C_drewN ?_ _) | (with_reducible refine Kd.C_drew ?_))); (case side2 => exact HC1.out); (case side3 => repeat (first | exact HR2.out | (with_reducible refine Kd.C_alloc ?_ _) | (with_reducible refine Kd.C_drewN ?_ _) | (with_reducible refine Kd.C_drew ?_))); (case side4 => exact HC2.out); rintro e w6 ⟨v1002, rfl, ho0, hb⟩; refine ⟨_, rfl, ?_⟩; have n0_ := Aside0.mk (Kd.R_lower ho0 (below_size (by repeat (first | (with_reducible first | exact HB.out | apply below_alloc | apply pw_below_drewN | apply below_drew1) | exact HB.out)))); have n1_ := Aside0.mk (below_step (by repeat (first | (with_reducible first | exact HB.out | apply below_alloc | apply pw_below_drewN | apply below_drew1) | exact HB.out)) hb); clear HB; have HO1003 := n0_; have HB := n1_; clear n0_ n1_; (try clear hb); (try clear hb2); (try clear hk); (try clear hi); (try clear ho0); obtain ⟨Ao7, co7, eo7⟩ := Kd.R_slice HO1003.out; subst eo7) | ((with_reducible refine gate_callee (f := 50) rfl ?_); refine goesL_ (some 14) rfl rfl Try.func50 (by kernel_rfl) rfl #[.int .i64 a0, .slice A1 l1.length c1, .slice A2 l2.length c2, .slice Ao7 t1001.length co7] rfl (by (try simp only [List.map_toArray, List.map_cons, List.map_nil]); first | done | rfl | (simp only [List.length_drop, List.length_take]; rfl)) ?_; (with_reducible refine (sackbutref06_Price.calls k a0 _ _ l1 _ _ l2 _ _ t1001 t1004 _ ?side1 ?side2 ?side3 ?side4 ?side5 ?side6 A5.out).mono ?_); (case side1 => repeat (first | exact (Kd.C_below HR1.out HB.out) | (with_reducible refine Kd.C_alloc ?_ _) | (with_reducible refine Kd.C_drewN ?_ _) | (with_reducible refine Kd.C_drew ?_))); (case side2 => exact HC1.out); (case side3 => repeat (first | exact (Kd.C_below HR2.out HB.out) | (with_reducible refine Kd.C_alloc ?_ _) | (with_reducible refine Kd.C_drewN ?_ _) | (with_reducible refine Kd.C_drew ?_))); (case side4 => exact HC2.out); (case side5 => repeat (first | exact (Kd.R_reads' HO1003.out).2.2 | (with_reducible refine Kd.C_alloc ?_ _) | (with_reducible refine Kd.C_drewN ?_ _) | (with_reducible refine Kd.C_drew ?_))); (case side6 => exact (Kd.R_reads' HO1003.out).2.1); rintro e w8 ⟨rfl, hb⟩; refine ⟨_, rfl, ?_⟩; have n0_ := Aside0.mk (Kd.R_below (by (with_reducible repeat (first | apply Kd.R_alloc | apply Kd.R_drewN | apply Kd.R_drew)); exact HO1003.out) hb); have n1_ := Aside0.mk (below_step (by repeat (first | (with_reducible first | exact HB.out | apply below_alloc | apply pw_below_drewN | apply below_drew1) | exact HB.out)) hb); clear HO1003; clear HB; have HO1003 := n0_; have HB := n1_; clear n0_ n1_; (try clear hb); (try clear hb2); (try clear hk); (try clear hi)))
  go_ret
  exact ⟨by first | rfl | (simp [errW_none, errW_some] <;> rfl) | (simp [*, errW_none, errW_some] <;> rfl), by repeat (first | (with_reducible first | exact HB.out | apply below_alloc | apply pw_below_drewN | apply below_drew1) | exact HB.out)⟩

end Go.Proofs.Ytfjafmgaahfhgaa.P
namespace Go.Proofs.Ytfjafmgaahfhgaa.P
open Go.RowKit Go.Proofs.YtfjafmgaahfhgaaW.PrintWords Go.Proofs.YtfjafmgaahfhgaaW.PrintLast Go.Proofs.YtfjafmgaahfhgaaW.PrintMore
attribute [local go_sem] max2_int min2_int max_two min_two max_three min_three max_four min_four   -- for this text's walks alone
set_option linter.unusedVariables false
set_option linter.unusedSimpArgs false

/-! the best leading is one -/
theorem rstep_some (pr : List Nat → Int) : ∀ (L : List (List Nat)) (b : List Nat), ∃ c, L.foldl (rstep pr) (some b) = some c
  | [], b => ⟨b, rfl⟩
  | l :: L, b => by
    rw [List.foldl_cons]
    unfold rstep
    simp only
    split
    · exact rstep_some pr L l
    · exact rstep_some pr L b
theorem rfold_some (pr : List Nat → Int) {L : List (List Nat)} (h : L ≠ []) : ∃ b ∈ L, rfold pr L = some b := by
  cases L with
  | nil => exact absurd rfl h
  | cons l L =>
    obtain ⟨c, hc⟩ := rstep_some pr L l
    have e : rfold pr (l :: L) = some c := hc
    refine ⟨c, ?_, e⟩
    exact (rfold_mem pr (l :: L) none c e).elim id (fun h => by cases h)
theorem bestV_some {n : Int} {a b : List Int} (h : TwoN n a b) : ∃ l, (bestV n a b).1 = some l ∧ (bestV n a b).2 = prV n a b l ∧ l.length = a.length ∧ ∀ y ∈ l, y < a.length := by
  obtain ⟨l, hl, e⟩ := rfold_some (prV n a b) (rlead_ne (k := a.length) a.length [] (by simp))
  obtain ⟨h1, h2⟩ := best_ref n a b
  rw [h1] at e
  have := rlead_all a.length [] (by simp) (by simp) l hl
  exact ⟨l, e, h2 l e, this.1, this.2⟩
theorem refCost_ev {n : Int} {a b : List Int} (h : TwoN n a b) : Ev (fun k => sackbutref06_Cost.f k n a b) (bestV n a b).2 := by
  obtain ⟨l, e1, e2, h1, h2⟩ := bestV_some h
  have e : sackbutref06_Lead.f n a b = some (nums l) := by unfold sackbutref06_Lead.f; rw [if_pos h, e1]; rfl
  unfold sackbutref06_Cost.f
  refine Ev.bind_some e ?_
  rw [e2]
  exact Ev.bind (refPrice_ev h.1 h.2.1 (nums l) (by rw [nums_length]; omega) (fun k hk => by
    unfold nums at hk
    rw [List.mem_map] at hk
    obtain ⟨y, hy, rfl⟩ := hk
    have := h2 y hy
    have := h.2.2
    show (0 : Int) ≤ (y : Int) ∧ (y : Int) < _
    omega)) (Ev.some _)

end Go.Proofs.Ytfjafmgaahfhgaa.P
namespace Go.Proofs.Ytfjafmgaahfhgaa.P
open Go.RowKit Go.Proofs.YtfjafmgaahfhgaaW.PrintWords Go.Proofs.YtfjafmgaahfhgaaW.PrintLast Go.Proofs.YtfjafmgaahfhgaaW.PrintMore
attribute [local go_sem] max2_int min2_int max_two min_two max_three min_three max_four min_four   -- for this text's walks alone
set_option linter.unusedVariables false
set_option linter.unusedSimpArgs false

/-! a least leading without crossing: two crossing voices exchange their tones -/
theorem ds_le {n x y m c : Int} (hn : 2 ≤ n) (hm : m = (y - x) + n * c) : dsN n x y ≤ max m (-m) := by
  have h1 := Int.emod_nonneg (y - x) (show n ≠ 0 by omega)
  have h2 := Int.emod_lt_of_pos (y - x) (show 0 < n by omega)
  have h3 := Int.mul_ediv_add_emod (y - x) n
  obtain ⟨e, he⟩ : ∃ e, e = (y - x) / n + c := ⟨_, rfl⟩
  have h4 : m = (y - x) % n + n * e := by rw [he, Int.mul_add]; omega
  unfold dsN mvN
  generalize (y - x) % n = r at *
  rcases Int.lt_or_le e 0 with h | h
  · have : n * e ≤ n * (-1) := Int.mul_le_mul_of_nonneg_left (by omega) (by omega)
    rw [show n * (-1) = -n by omega] at this
    generalize n * e = u at *
    split <;> omega
  · have : 0 ≤ n * e := Int.mul_nonneg (by omega) h
    generalize n * e = u at *
    split <;> omega
theorem cross_shift {n p q am bm : Int} (h : crB n p am q bm = true) : ∃ t u : Int, u = t * n - (p - q) ∧ ((0 < u ∧ u < am - bm) ∨ (u < 0 ∧ am - bm < u)) := by
  unfold crB rtB at h
  simp only [Bool.and_eq_true, Bool.or_eq_true, decide_eq_true_eq, Bool.or_false] at h
  rcases h.2 with h | h | h | h | h
  · exact ⟨-2, _, rfl, h⟩
  · exact ⟨-1, _, rfl, h⟩
  · exact ⟨0, _, rfl, h⟩
  · exact ⟨1, _, rfl, h⟩
  · exact ⟨2, _, rfl, h⟩
theorem mv_cong (n x y : Int) : ∃ c, mvN n x y = (y - x) + n * c := by
  have h3 := Int.mul_ediv_add_emod (y - x) n
  unfold mvN
  split
  · refine ⟨-((y - x) / n) - 1, ?_⟩
    rw [Int.mul_sub, Int.mul_neg]; omega
  · refine ⟨-((y - x) / n), ?_⟩
    rw [Int.mul_neg]; omega
theorem sq_le {a m : Int} (h0 : 0 ≤ a) (h : a ≤ max m (-m)) : a * a ≤ m * m := by
  rcases Int.le_total 0 m with hm | hm
  · exact Int.mul_le_mul (by omega) (by omega) h0 hm
  · have := Int.mul_le_mul (show a ≤ -m by omega) (show a ≤ -m by omega) h0 (by omega)
    rwa [Int.neg_mul_neg] at this
theorem ds_sq (n x y : Int) : dsN n x y * dsN n x y = mvN n x y * mvN n x y := by
  unfold dsN
  generalize mvN n x y = m
  rcases Int.le_total 0 m with hm | hm
  · rw [show max m (-m) = m by omega]
  · rw [show max m (-m) = -m by omega, Int.neg_mul_neg]
/-- the exchange -/
theorem swap_num {n p q y z : Int} (hn : 2 ≤ n) (h : crB n p (mvN n p y) q (mvN n q z) = true) :
    dsN n p z + dsN n q y ≤ dsN n p y + dsN n q z ∧ dsN n p z * dsN n p z + dsN n q y * dsN n q y < dsN n p y * dsN n p y + dsN n q z * dsN n q z := by
  obtain ⟨t, u, hu, hc⟩ := cross_shift h
  obtain ⟨c1, h1⟩ := mv_cong n p y
  obtain ⟨c2, h2⟩ := mv_cong n q z
  have e1 : dsN n p z ≤ max (mvN n q z + u) (-(mvN n q z + u)) := ds_le (c := c2 + t) hn (by rw [Int.mul_add, Int.mul_comm n t]; omega)
  have e2 : dsN n q y ≤ max (mvN n p y - u) (-(mvN n p y - u)) := ds_le (c := c1 - t) hn (by rw [Int.mul_sub, Int.mul_comm n t]; omega)
  have s1 := sq_le (dsN_bd (x := p) (y := z) hn).1 e1
  have s2 := sq_le (dsN_bd (x := q) (y := y) hn).1 e2
  rw [ds_sq n p y, ds_sq n q z]
  have d1 : dsN n p y = max (mvN n p y) (-(mvN n p y)) := rfl
  have d2 : dsN n q z = max (mvN n q z) (-(mvN n q z)) := rfl
  rw [d1, d2]
  generalize mvN n p y = am at *
  generalize mvN n q z = bm at *
  have hpos : 0 < u * (am - bm - u) := by
    rcases hc with hc | hc
    · exact Int.mul_pos hc.1 (by omega)
    · exact Int.mul_pos_of_neg_of_neg hc.1 (by omega)
  refine ⟨by omega, ?_⟩
  have x1 : (bm + u) * (bm + u) = bm * bm + 2 * (u * bm) + u * u := by
    rw [Int.add_mul, Int.mul_add, Int.mul_add, Int.mul_comm bm u]; omega
  have x2 : (am - u) * (am - u) = am * am - 2 * (u * am) + u * u := by
    rw [Int.sub_mul, Int.mul_sub, Int.mul_sub, Int.mul_comm am u]; omega
  have x3 : u * (am - bm - u) = u * am - u * bm - u * u := by rw [Int.mul_sub, Int.mul_sub]
  omega
def sumF (f : Nat → Nat → Int) : List Nat → Nat → Int
  | [], _ => 0
  | y :: l, i => f i y + sumF f l (i + 1)
theorem sumF_set (f : Nat → Nat → Int) : ∀ (l : List Nat) (s i : Nat) (y : Nat) (h : i < l.length), sumF f (l.set i y) s = sumF f l s - f (s + i) l[i] + f (s + i) y
  | [], _, _, _, h => by simp at h
  | x :: l, s, 0, y, h => by simp only [List.set_cons_zero, sumF, List.getElem_cons_zero, Nat.add_zero]; omega
  | x :: l, s, i + 1, y, h => by
    simp only [List.set_cons_succ, sumF, List.getElem_cons_succ]
    rw [sumF_set f l (s + 1) i y (by simpa using h), show s + 1 + i = s + (i + 1) by omega]
    omega
theorem sumF_swap (f : Nat → Nat → Int) (l : List Nat) (i j : Nat) (hi : i < l.length) (hj : j < l.length) (hne : i ≠ j) :
    sumF f ((l.set i l[j]).set j l[i]) 0 = sumF f l 0 - f i l[i] - f j l[j] + f i l[j] + f j l[i] := by
  rw [sumF_set f _ 0 j l[i] (by simpa using hj), sumF_set f l 0 i l[j] hi]
  simp only [Nat.zero_add]
  rw [List.getElem_set_ne hne]
  omega
theorem prI_sumF (n : Int) (a b : List Int) : ∀ (l : List Nat) (i : Nat), prI n a b (nums l) i = sumF (fun i y => dsN n (toneI a i) (toneI b y)) l i
  | [], _ => rfl
  | y :: l, i => by
    show dsN n (a.getD i 0) (b.getD (y : Int).toNat 0) + prI n a b (nums l) (i + 1) = _
    rw [prI_sumF n a b l (i + 1)]; rfl
theorem min_two_keys (f g : List Nat → Int) : ∀ (L : List (List Nat)), L ≠ [] → ∃ x ∈ L, ∀ y ∈ L, f x < f y ∨ (f x = f y ∧ g x ≤ g y)
  | [], h => absurd rfl h
  | [x], _ => ⟨x, by simp, fun y hy => by simp at hy; subst hy; exact .inr ⟨rfl, Int.le_refl _⟩⟩
  | x :: z :: L, _ => by
    obtain ⟨m, hm, h⟩ := min_two_keys f g (z :: L) (by simp)
    by_cases hx : f x < f m ∨ (f x = f m ∧ g x ≤ g m)
    · refine ⟨x, by simp, fun y hy => ?_⟩
      rcases List.mem_cons.1 hy with rfl | hy
      · exact .inr ⟨rfl, Int.le_refl _⟩
      · have := h y hy; omega
    · refine ⟨m, by simp at hm ⊢; exact .inr hm, fun y hy => ?_⟩
      rcases List.mem_cons.1 hy with rfl | hy
      · omega
      · exact h y hy
/-- all leadings -/
theorem rlead_mem {k : Nat} : ∀ (r : Nat) (cur x : List Nat), cur.length + r = k → (x ∈ rlead k r cur ↔ ∃ s, x = cur ++ s ∧ s.length = r ∧ (∀ y ∈ s, y < k ∧ y ∉ cur) ∧ s.Nodup)
  | 0, cur, x, h => by
    simp only [rlead, List.mem_singleton]
    constructor
    · rintro rfl; exact ⟨[], by simp, rfl, by simp, by simp⟩
    · rintro ⟨s, rfl, hs, _⟩
      have : s = [] := List.eq_nil_of_length_eq_zero hs
      simp [this]
  | r + 1, cur, x, h => by
    simp only [rlead, List.mem_flatMap, List.mem_range]
    constructor
    · rintro ⟨y, hy, hx⟩
      split at hx
      · cases hx
      · rename_i hc
        obtain ⟨s, rfl, hs, hs2, hs3⟩ := (rlead_mem r (cur ++ [y]) x (by rw [List.length_append, List.length_singleton]; omega)).1 hx
        refine ⟨y :: s, by simp, by simp [hs], fun z hz => ?_, ?_⟩
        · rcases List.mem_cons.1 hz with rfl | hz
          · exact ⟨hy, hc⟩
          · exact ⟨(hs2 z hz).1, fun h => (hs2 z hz).2 (by simp [h])⟩
        · rw [List.nodup_cons]
          exact ⟨fun h => (hs2 y h).2 (by simp), hs3⟩
    · rintro ⟨s, rfl, hs, hs2, hs3⟩
      cases s with
      | nil => simp at hs
      | cons y s =>
        rw [List.nodup_cons] at hs3
        have hy := hs2 y (by simp)
        refine ⟨y, hy.1, ?_⟩
        rw [if_neg hy.2]
        refine (rlead_mem r (cur ++ [y]) _ (by rw [List.length_append, List.length_singleton]; omega)).2 ⟨s, by simp, by simpa using hs, fun z hz => ⟨(hs2 z (by simp [hz])).1, fun h => ?_⟩, hs3.2⟩
        rcases List.mem_append.1 h with h | h
        · exact (hs2 z (by simp [hz])).2 h
        · rw [List.mem_singleton] at h; subst h; exact hs3.1 hz
theorem all_mem {k : Nat} {x : List Nat} : x ∈ rlead k k [] ↔ x.length = k ∧ (∀ y ∈ x, y < k) ∧ x.Nodup := by
  rw [rlead_mem k [] x (by simp)]
  constructor
  · rintro ⟨s, rfl, h1, h2, h3⟩; exact ⟨h1, fun y hy => (h2 y hy).1, h3⟩
  · rintro ⟨h1, h2, h3⟩; exact ⟨x, rfl, h1, fun y hy => ⟨h2 y hy, by simp⟩, h3⟩
def LexLT (y z : List Nat) : Prop := ∃ (p : List Nat) (u v : Nat) (s t : List Nat), y = p ++ u :: s ∧ z = p ++ v :: t ∧ u < v
theorem rlead_lex {k : Nat} : ∀ (r : Nat) (cur : List Nat), cur.length + r = k → List.Pairwise LexLT (rlead k r cur)
  | 0, cur, _ => by simp [rlead]
  | r + 1, cur, h => by
    unfold rlead
    rw [List.pairwise_flatMap]
    have hl : ∀ x : Nat, (cur ++ [x]).length + r = k := fun x => by rw [List.length_append, List.length_singleton]; omega
    refine ⟨fun x hx => ?_, ?_⟩
    · split
      · exact List.Pairwise.nil
      · exact rlead_lex r (cur ++ [x]) (hl x)
    · refine List.Pairwise.imp ?_ List.pairwise_lt_range
      intro x y hxy a ha b hb
      split at ha
      · cases ha
      · split at hb
        · cases hb
        · obtain ⟨s, rfl, _⟩ := (rlead_mem r _ a (hl x)).1 ha
          obtain ⟨t, rfl, _⟩ := (rlead_mem r _ b (hl y)).1 hb
          exact ⟨cur, x, y, s, t, by simp, by simp, hxy⟩
theorem find_lex {k : Nat} {p : List Nat → Bool} {x o : List Nat} (hf : (rlead k k []).find? p = some x) (ho : o ∈ rlead k k []) (hp : p o = true) : x = o ∨ LexLT x o := by
  have hP := rlead_lex k (k := k) [] (by simp)
  obtain ⟨_, us, vs, e, hn⟩ := List.find?_eq_some_iff_append.1 hf
  rw [e] at hP ho
  rcases List.mem_append.1 ho with h | h
  · have := hn o h; rw [hp] at this; cases this
  · rcases List.mem_cons.1 h with h | h
    · exact .inl h.symm
    · rw [List.pairwise_append] at hP
      exact .inr ((List.pairwise_cons.1 hP.2.1).1 o h)

theorem rstep_min (pr : List Nat → Int) : ∀ (L : List (List Nat)) (s : Option (List Nat)) (b : List Nat), L.foldl (rstep pr) s = some b → (∀ y ∈ L, pr b ≤ pr y) ∧ ∀ c, s = some c → pr b ≤ pr c
  | [], s, b, h => ⟨fun y hy => (by cases hy), fun c hc => (by rw [List.foldl_nil] at h; rw [h] at hc; cases hc; exact Int.le_refl _)⟩
  | l :: L, s, b, h => by
    rw [List.foldl_cons] at h
    obtain ⟨h1, h2⟩ := rstep_min pr L _ b h
    unfold rstep at h2
    cases s with
    | none =>
      have h3 := h2 l rfl
      exact ⟨fun y hy => (List.mem_cons.1 hy).elim (fun e => e ▸ h3) (h1 y), fun c hc => by cases hc⟩
    | some c =>
      simp only at h2
      by_cases hlt : pr l < pr c
      · rw [if_pos hlt] at h2
        have h3 := h2 l rfl
        exact ⟨fun y hy => (List.mem_cons.1 hy).elim (fun e => e ▸ h3) (h1 y), fun d hd => by cases hd; omega⟩
      · rw [if_neg hlt] at h2
        have h3 := h2 c rfl
        exact ⟨fun y hy => (List.mem_cons.1 hy).elim (fun e => by rw [e]; omega) (h1 y), fun d hd => by cases hd; exact h3⟩
theorem bestV_min {n : Int} {a b : List Int} (h : TwoN n a b) : ∃ l ∈ rlead a.length a.length [], (bestV n a b).2 = prV n a b l ∧ ∀ y ∈ rlead a.length a.length [], prV n a b l ≤ prV n a b y := by
  obtain ⟨l, hl, e⟩ := rfold_some (prV n a b) (rlead_ne (k := a.length) a.length [] (by simp))
  obtain ⟨h1, h2⟩ := best_ref n a b
  have e2 := e
  rw [h1] at e
  exact ⟨l, hl, h2 l e, (rstep_min (prV n a b) _ none l e2).1⟩
/-- a leading with the least price and no crossing there is -/
theorem calm_exists {n : Int} {a b : List Int} (h : TwoN n a b) : ∃ x ∈ rlead a.length a.length [], prV n a b x = (bestV n a b).2 ∧ ¬ CrossP n a b (nums x) := by
  obtain ⟨l, hl, e, hmin⟩ := bestV_min h
  obtain ⟨x, hx, hm⟩ := min_two_keys (prV n a b) (fun x => sumF (fun i y => dsN n (toneI a i) (toneI b y) * dsN n (toneI a i) (toneI b y)) x 0) _ (rlead_ne (k := a.length) a.length [] (by simp))
  refine ⟨x, hx, ?_, ?_⟩
  · have h1 := hm l hl
    have h2 := hmin x hx
    omega
  · rintro ⟨i, hi, j, hj, hc⟩
    obtain ⟨x1, x2, x3⟩ := all_mem.1 hx
    have hi' : i < x.length := by omega
    have hj' : j < x.length := by omega
    have hne : i ≠ j := by rintro rfl; rw [crF_self] at hc; cases hc
    have ei : ∀ i (hi : i < x.length), (toneI (nums x) i).toNat = x[i] := fun i hi => by
      unfold toneI nums
      rw [List.getD_eq_getElem?_getD, List.getElem?_map, List.getElem?_eq_getElem hi]
      rfl
    unfold crF mvAt at hc
    rw [ei i hi', ei j hj'] at hc
    obtain ⟨s1, s2⟩ := swap_num h.1.1 hc
    have hp := List.set_set_perm hi' hj'
    have hs := hm ((x.set i x[j]).set j x[i]) (all_mem.2 ⟨by rw [hp.length_eq]; exact x1, fun y hy => x2 y (hp.mem_iff.1 hy), hp.nodup_iff.2 x3⟩)
    unfold prV at hs
    rw [prI_sumF, prI_sumF, sumF_swap _ x i j hi' hj' hne, sumF_swap _ x i j hi' hj' hne] at hs
    omega

end Go.Proofs.Ytfjafmgaahfhgaa.P
namespace Go.Proofs.Ytfjafmgaahfhgaa.P
open Go.RowKit Go.Proofs.YtfjafmgaahfhgaaW.PrintWords Go.Proofs.YtfjafmgaahfhgaaW.PrintLast Go.Proofs.YtfjafmgaahfhgaaW.PrintMore
attribute [local go_sem] max2_int min2_int max_two min_two max_three min_three max_four min_four   -- for this text's walks alone
set_option linter.unusedVariables false
set_option linter.unusedSimpArgs false

/-! the cost is the least sum over the orders of the other voicing's tones -/
def sumZ (n : Int) : List Int → List Int → Int
  | x :: a, y :: c => dsN n x y + sumZ n a c
  | _, _ => 0
theorem perm_lift {α β : Type} (f : α → β) {c d : List β} (h : c.Perm d) : ∀ l : List α, d = l.map f → ∃ x : List α, x.Perm l ∧ c = x.map f := by
  induction h with
  | nil => intro l hl; exact ⟨[], (by cases l with | nil => exact List.Perm.nil | cons _ _ => cases hl), rfl⟩
  | cons x h ih =>
    intro l hl
    cases l with
    | nil => cases hl
    | cons y l =>
      rw [List.map_cons] at hl
      injection hl with h1 h2
      obtain ⟨z, hz, e⟩ := ih l h2
      exact ⟨y :: z, hz.cons y, by rw [List.map_cons, ← e, h1]⟩
  | swap x y t =>
    intro l hl
    match l, hl with
    | u :: v :: l, hl =>
      rw [List.map_cons, List.map_cons] at hl
      injection hl with h1 h2
      injection h2 with h2 h3
      exact ⟨v :: u :: l, List.Perm.swap u v l, by rw [List.map_cons, List.map_cons, h1, h2, h3]⟩
  | trans h1 h2 ih1 ih2 =>
    intro l hl
    obtain ⟨x, hx, e⟩ := ih2 l hl
    obtain ⟨y, hy, e2⟩ := ih1 x e
    exact ⟨y, hy.trans hx, e2⟩
def sumP (n : Int) (p : List (Int × Int)) : Int := (p.map fun q => dsN n q.1 q.2).sum
theorem sumZ_pairs (n : Int) : ∀ p : List (Int × Int), sumZ n (p.map Prod.fst) (p.map Prod.snd) = sumP n p
  | [] => rfl
  | q :: p => by
    unfold sumP
    rw [List.map_cons, List.map_cons, List.map_cons, List.sum_cons, sumZ, sumZ_pairs n p]; rfl
theorem zip_pairs : ∀ (a c : List Int), a.length = c.length → (a.zip c).map Prod.fst = a ∧ (a.zip c).map Prod.snd = c
  | [], [], _ => ⟨rfl, rfl⟩
  | x :: a, y :: c, h => by
    obtain ⟨h1, h2⟩ := zip_pairs a c (by simpa using h)
    rw [List.zip_cons_cons, List.map_cons, List.map_cons, h1, h2]
    exact ⟨rfl, rfl⟩
theorem sum_perm9 {l l' : List Int} (h : l.Perm l') : l.sum = l'.sum := by
  induction h with
  | nil => rfl
  | cons x _ ih => rw [List.sum_cons, List.sum_cons, ih]
  | swap x y l => simp only [List.sum_cons]; omega
  | trans _ _ ih1 ih2 => exact ih1.trans ih2
theorem sumP_perm (n : Int) {p q : List (Int × Int)} (h : p.Perm q) : sumP n p = sumP n q := by
  have h2 := sum_perm9 (h.map (fun q => dsN n q.1 q.2))
  unfold sumP
  exact h2
/-- the first tones in another order -/
theorem sumZ_move {n : Int} {a a' c : List Int} (h : a'.Perm a) (hl : a.length = c.length) : ∃ c', c'.Perm c ∧ sumZ n a' c' = sumZ n a c := by
  obtain ⟨e1, e2⟩ := zip_pairs a c hl
  obtain ⟨p, hp, e⟩ := perm_lift Prod.fst h (a.zip c) e1.symm
  refine ⟨p.map Prod.snd, ?_, ?_⟩
  · have := hp.map Prod.snd
    rwa [e2] at this
  · rw [e, sumZ_pairs, sumP_perm n hp, ← sumZ_pairs, e1, e2]
theorem ds_symm {n x y : Int} (hn : 2 ≤ n) : dsN n x y = dsN n y x := by
  have h : ∀ x y : Int, dsN n x y ≤ dsN n y x := fun x y => by
    obtain ⟨c, hc⟩ := mv_cong n y x
    have := ds_le (n := n) (x := x) (y := y) (m := -(mvN n y x)) (c := -c) hn (by rw [Int.mul_neg]; omega)
    have e : dsN n y x = max (mvN n y x) (-(mvN n y x)) := rfl
    omega
  exact Int.le_antisymm (h x y) (h y x)
theorem sumZ_symm {n : Int} (hn : 2 ≤ n) : ∀ a c : List Int, sumZ n a c = sumZ n c a
  | [], [] => rfl
  | [], _ :: _ => rfl
  | _ :: _, [] => rfl
  | x :: a, y :: c => by unfold sumZ; rw [ds_symm hn, sumZ_symm hn a c]
theorem ds_tri {n x y z : Int} (hn : 2 ≤ n) : dsN n x z ≤ dsN n x y + dsN n y z := by
  obtain ⟨c1, h1⟩ := mv_cong n x y
  obtain ⟨c2, h2⟩ := mv_cong n y z
  have := ds_le (n := n) (x := x) (y := z) (m := mvN n x y + mvN n y z) (c := c1 + c2) hn (by rw [Int.mul_add]; omega)
  have e1 : dsN n x y = max (mvN n x y) (-(mvN n x y)) := rfl
  have e2 : dsN n y z = max (mvN n y z) (-(mvN n y z)) := rfl
  omega
theorem sumZ_tri {n : Int} (hn : 2 ≤ n) : ∀ a b c : List Int, a.length = b.length → b.length = c.length → sumZ n a c ≤ sumZ n a b + sumZ n b c
  | [], [], [], _, _ => by simp [sumZ]
  | x :: a, y :: b, z :: c, h1, h2 => by
    have := sumZ_tri hn a b c (by simpa using h1) (by simpa using h2)
    have := ds_tri (x := x) (y := y) (z := z) hn
    unfold sumZ
    omega
theorem sumZ_nonneg {n : Int} (hn : 2 ≤ n) : ∀ a c : List Int, 0 ≤ sumZ n a c
  | [], [] => Int.le_refl _
  | [], _ :: _ => Int.le_refl _
  | _ :: _, [] => Int.le_refl _
  | x :: a, y :: c => by
    have := sumZ_nonneg hn a c
    have := (dsN_bd (x := x) (y := y) hn).1
    unfold sumZ; omega
theorem ds_self {n x : Int} (hn : 2 ≤ n) : dsN n x x = 0 := by
  have := ds_le (n := n) (x := x) (y := x) (m := 0) (c := 0) hn (by simp)
  have := (dsN_bd (x := x) (y := x) hn).1
  omega
theorem ds_zero {n x y : Int} (hn : 2 ≤ n) (hx : 0 ≤ x ∧ x < n) (hy : 0 ≤ y ∧ y < n) (h : dsN n x y = 0) : x = y := by
  obtain ⟨c, hc⟩ := mv_cong n x y
  have e : dsN n x y = max (mvN n x y) (-(mvN n x y)) := rfl
  have h0 : mvN n x y = 0 := by omega
  rw [h0] at hc
  rcases Int.lt_trichotomy c 0 with h | h | h
  · have := Int.mul_le_mul_of_nonneg_left (show c ≤ -1 by omega) (show 0 ≤ n by omega)
    rw [Int.mul_neg, Int.mul_one] at this; omega
  · rw [h, Int.mul_zero] at hc; omega
  · have := Int.mul_le_mul_of_nonneg_left (show 1 ≤ c by omega) (show 0 ≤ n by omega)
    rw [Int.mul_one] at this; omega
theorem sumZ_self {n : Int} (hn : 2 ≤ n) : ∀ a : List Int, sumZ n a a = 0
  | [] => rfl
  | x :: a => by unfold sumZ; rw [ds_self hn, sumZ_self hn a]; rfl
theorem sumZ_zero {n : Int} (hn : 2 ≤ n) : ∀ a c : List Int, a.length = c.length → (∀ x ∈ a, 0 ≤ x ∧ x < n) → (∀ x ∈ c, 0 ≤ x ∧ x < n) → sumZ n a c = 0 → a = c
  | [], [], _, _, _, _ => rfl
  | x :: a, y :: c, hl, ha, hc, h => by
    unfold sumZ at h
    have h1 := sumZ_nonneg hn a c
    have h2 := (dsN_bd (x := x) (y := y) hn).1
    rw [ds_zero hn (ha x (by simp)) (hc y (by simp)) (by omega), sumZ_zero hn a c (by simpa using hl) (fun z hz => ha z (by simp [hz])) (fun z hz => hc z (by simp [hz])) (by omega)]
/-- a leading is an order of the other tones -/
theorem sumF_sumZ (n : Int) (b : List Int) : ∀ (a : List Int) (x : List Nat) (F : Nat → Int) (s : Nat), a.length = x.length → (∀ i, i < a.length → F (s + i) = a.getD i 0) → sumF (fun i y => dsN n (F i) (toneI b y)) x s = sumZ n a (x.map (toneI b))
  | [], [], _, _, _, _ => rfl
  | z :: a, y :: x, F, s, h, hF => by
    rw [sumF, List.map_cons, sumZ, sumF_sumZ n b a x F (s + 1) (by simpa using h) (fun i hi => by rw [show s + 1 + i = s + (i + 1) by omega, hF (i + 1) (by simpa using hi)]; rfl), show F s = z from hF 0 (by simp)]
theorem prV_sumZ {n : Int} {a b : List Int} {x : List Nat} (h : a.length = x.length) : prV n a b x = sumZ n a (x.map (toneI b)) := by
  unfold prV
  rw [prI_sumF]
  exact sumF_sumZ n b a x (toneI a) 0 h (fun i _ => by rw [Nat.zero_add]; rfl)
theorem range_tones (b : List Int) : (List.range b.length).map (toneI b) = b := by
  refine List.ext_getElem (by simp) (fun i h1 h2 => ?_)
  rw [List.getElem_map, List.getElem_range]
  unfold toneI
  rw [List.getD_eq_getElem?_getD, List.getElem?_eq_getElem h2]; rfl
theorem perm_range {k : Nat} {x : List Nat} (h : x ∈ rlead k k []) : x.Perm (List.range k) := by
  obtain ⟨h1, h2, h3⟩ := all_mem.1 h
  refine (List.perm_ext_iff_of_nodup h3 List.nodup_range).2 (fun y => ⟨fun hy => List.mem_range.2 (h2 y hy), fun hy => ?_⟩)
  rcases Classical.em (y ∈ x) with hm | hm
  · exact hm
  · have := len_le_of_sub (y :: x) (List.range k) (List.nodup_cons.2 ⟨hm, h3⟩) (fun c hc => by
      rcases List.mem_cons.1 hc with rfl | hc
      · exact hy
      · exact List.mem_range.2 (h2 c hc))
    rw [List.length_range, List.length_cons] at this
    omega
/-- the cost -/
theorem cost_spec {n : Int} {a b : List Int} (h : TwoN n a b) : (∃ c, c.Perm b ∧ sumZ n a c = (bestV n a b).2) ∧ ∀ c, c.Perm b → (bestV n a b).2 ≤ sumZ n a c := by
  obtain ⟨l, hl, e, hmin⟩ := bestV_min h
  have hlen : ∀ x ∈ rlead a.length a.length [], a.length = x.length := fun x hx => (all_mem.1 hx).1.symm
  constructor
  · refine ⟨l.map (toneI b), ?_, by rw [e, prV_sumZ (hlen l hl)]⟩
    have := (perm_range hl).map (toneI b)
    rwa [h.2.2, range_tones] at this
  · intro c hc
    obtain ⟨x, hx, e2⟩ := perm_lift (toneI b) hc (List.range b.length) (range_tones b).symm
    have hxm : x ∈ rlead a.length a.length [] := all_mem.2 ⟨by rw [hx.length_eq, List.length_range, h.2.2], fun y hy => by have := List.mem_range.1 (hx.mem_iff.1 hy); rw [h.2.2]; exact this, hx.nodup_iff.2 List.nodup_range⟩
    have := hmin x hxm
    rw [e, e2, ← prV_sumZ (hlen x hxm)]
    exact this
theorem cost_le {n : Int} {a b : List Int} (h : TwoN n a b) {c : List Int} (hc : c.Perm b) : (bestV n a b).2 ≤ sumZ n a c := (cost_spec h).2 c hc
theorem cost_perm {n : Int} {a a' b : List Int} (h : TwoN n a b) (h' : TwoN n a' b) (hp : a'.Perm a) : (bestV n a' b).2 = (bestV n a b).2 := by
  have go : ∀ {a a' : List Int}, TwoN n a b → TwoN n a' b → a'.Perm a → (bestV n a' b).2 ≤ (bestV n a b).2 := fun {a a'} h h' hp => by
    obtain ⟨c, hc, e⟩ := (cost_spec h).1
    obtain ⟨c', hc', e'⟩ := sumZ_move (n := n) hp (show a.length = c.length by rw [hc.length_eq]; exact h.2.2)
    rw [← e, ← e']
    exact cost_le h' (hc'.trans hc)
  exact Int.le_antisymm (go h h' hp) (go h' h hp.symm)
theorem cost_symm {n : Int} {a b : List Int} (h : TwoN n a b) (h' : TwoN n b a) : (bestV n a b).2 = (bestV n b a).2 := by
  have hn := h.1.1
  have go : ∀ {a b : List Int}, TwoN n a b → TwoN n b a → (bestV n b a).2 ≤ (bestV n a b).2 := fun {a b} h h' => by
    obtain ⟨c, hc, e⟩ := (cost_spec h).1
    obtain ⟨c', hc', e'⟩ := sumZ_move (n := n) (a := c) (a' := b) (c := a) hc.symm (by rw [hc.length_eq]; exact h.2.2.symm)
    rw [← e, sumZ_symm hn, ← e']
    exact cost_le h' hc'
  exact Int.le_antisymm (go h' h) (go h h')
theorem cost_tri {n : Int} {a b c : List Int} (hab : TwoN n a b) (hac : TwoN n a c) (hcb : TwoN n c b) : (bestV n a b).2 ≤ (bestV n a c).2 + (bestV n c b).2 := by
  obtain ⟨c1, h1, e1⟩ := (cost_spec hac).1
  obtain ⟨b1, h2, e2⟩ := (cost_spec hcb).1
  obtain ⟨b2, h3, e3⟩ := sumZ_move (n := n) (a := c) (a' := c1) (c := b1) h1 (by rw [h2.length_eq]; exact hcb.2.2)
  have := cost_le hab (h3.trans h2)
  have := sumZ_tri hab.1.1 a c1 b2 (by rw [h1.length_eq]; exact hac.2.2) (by rw [h1.length_eq, h3.length_eq, h2.length_eq]; exact hcb.2.2)
  omega
theorem cost_nonneg {n : Int} {a b : List Int} (h : TwoN n a b) : 0 ≤ (bestV n a b).2 := by
  obtain ⟨c, _, e⟩ := (cost_spec h).1
  rw [← e]; exact sumZ_nonneg h.1.1 _ _
theorem cost_zero {n : Int} {a b : List Int} (h : TwoN n a b) : (bestV n a b).2 = 0 ↔ a.Perm b := by
  constructor
  · intro h0
    obtain ⟨c, hc, e⟩ := (cost_spec h).1
    rw [h0] at e
    have := sumZ_zero h.1.1 a c (by rw [hc.length_eq]; exact h.2.2) h.1.2.2.2.2 (fun x hx => h.2.1.2.2.2.2 x (hc.mem_iff.1 hx)) e
    rw [this]; exact hc
  · intro hp
    have := cost_le h hp
    rw [sumZ_self h.1.1] at this
    have := cost_nonneg h
    omega

end Go.Proofs.Ytfjafmgaahfhgaa.P
namespace Go.Proofs.Ytfjafmgaahfhgaa.P
open Go.RowKit Go.Proofs.YtfjafmgaahfhgaaW.PrintWords Go.Proofs.YtfjafmgaahfhgaaW.PrintLast Go.Proofs.YtfjafmgaahfhgaaW.PrintMore
attribute [local go_sem] max2_int min2_int max_two min_two max_three min_three max_four min_four   -- for this text's walks alone
set_option linter.unusedVariables false
set_option linter.unusedSimpArgs false

/-! tones in order, and what a leading of the least price is -/
theorem insR_comm (x y : Int) : ∀ l : List Int, insR x (insR y l) = insR y (insR x l)
  | [] => by
    by_cases h1 : y ≤ x <;> by_cases h2 : x ≤ y
    · have : x = y := by omega
      subst this; rfl
    · simp [insR, h1, h2]
    · simp [insR, h1, h2]
    · omega
  | z :: l => by
    by_cases h1 : z ≤ y <;> by_cases h2 : z ≤ x
    · simp [insR, h1, h2, insR_comm x y l]
    · have h3 : x ≤ y := by omega
      simp [insR, h1, h2, h3]
    · have h3 : y ≤ x := by omega
      simp [insR, h1, h2, h3]
    · by_cases h3 : y ≤ x <;> by_cases h4 : x ≤ y
      · have : x = y := by omega
        subst this; rfl
      · simp [insR, h1, h2, h3, h4]
      · simp [insR, h1, h2, h3, h4]
      · omega
theorem insR_perm (x : Int) : ∀ l : List Int, (insR x l).Perm (x :: l)
  | [] => List.Perm.refl _
  | y :: l => by
    unfold insR
    split
    · exact ((insR_perm x l).cons y).trans (List.Perm.swap x y l)
    · exact List.Perm.refl _
theorem fold_ins {a b : List Int} (h : a.Perm b) : ∀ o : List Int, a.foldl (fun o x => insR x o) o = b.foldl (fun o x => insR x o) o := by
  induction h with
  | nil => intro o; rfl
  | cons x _ ih => intro o; rw [List.foldl_cons, List.foldl_cons]; exact ih _
  | swap x y l => intro o; rw [List.foldl_cons, List.foldl_cons, List.foldl_cons, List.foldl_cons, insR_comm]
  | trans _ _ ih1 ih2 => intro o; exact (ih1 o).trans (ih2 o)
theorem fold_perm : ∀ (a o : List Int), (a.foldl (fun o x => insR x o) o).Perm (a ++ o)
  | [], o => List.Perm.refl _
  | x :: a, o => by
    rw [List.foldl_cons]
    exact (fold_perm a (insR x o)).trans (((insR_perm x o).append_left a).trans List.perm_middle)
theorem risR_perm (a : List Int) : (risR a).Perm a := by
  have := fold_perm a []
  rw [List.append_nil] at this
  exact this
theorem risR_iff {a b : List Int} : risR a = risR b ↔ a.Perm b :=
  ⟨fun h => (risR_perm a).symm.trans (h ▸ risR_perm b), fun h => fold_ins h []⟩
theorem rising_f (a : List Int) (h : a.length ≤ 1000) : sackbutref06_Rising.f a = some (risR a) := by unfold sackbutref06_Rising.f; rw [if_pos h]
theorem two_symm {n : Int} {a b : List Int} (h : TwoN n a b) : TwoN n b a := ⟨h.2.1, h.1, h.2.2.symm⟩
theorem cost_bd {n : Int} {a b : List Int} (h : TwoN n a b) : (bestV n a b).2 ≤ 1000 := by
  obtain ⟨l, _, e, hl, _⟩ := bestV_some h
  have h1 := (prI_bd h.1.1 a b (nums l) 0).2
  rw [nums_length, hl] at h1
  have h2 : n * (a.length : Int) ≤ 16 * 6 := Int.mul_le_mul h.1.2.1 (by have := h.1.2.2.2.1; omega) (by omega) (by decide)
  rw [e]; unfold prV
  omega
theorem lead_nums3 {k : Nat} {x : List Nat} (h : x ∈ rlead k k []) : LeadOf k (nums x) := by
  obtain ⟨h1, h2, h3⟩ := all_mem.1 h
  refine ⟨by rw [nums_length]; exact h1, fun y hy => ?_, ?_⟩
  · unfold nums at hy
    rw [List.mem_map] at hy
    obtain ⟨z, hz, rfl⟩ := hy
    have := h2 z hz
    show (0 : Int) ≤ (z : Int) ∧ (z : Int) < _
    omega
  · unfold nums
    exact List.Pairwise.map _ (fun a b hab => fun e => hab (Int.ofNat.inj e)) h3
theorem best_lead {n : Int} {a b : List Int} (h : TwoN n a b) : ∃ l, (bestV n a b).1 = some l ∧ LeadOf a.length (nums l) ∧ prI n a b (nums l) 0 = (bestV n a b).2 := by
  obtain ⟨l, hl, e⟩ := rfold_some (prV n a b) (rlead_ne (k := a.length) a.length [] (by simp))
  obtain ⟨h1, h2⟩ := best_ref n a b
  rw [h1] at e
  exact ⟨l, e, lead_nums3 hl, (h2 l e).symm⟩

end Go.Proofs.Ytfjafmgaahfhgaa.P
namespace Go.Proofs.Ytfjafmgaahfhgaa.P
open Go.RowKit Go.Proofs.YtfjafmgaahfhgaaW.PrintWords Go.Proofs.YtfjafmgaahfhgaaW.PrintLast Go.Proofs.YtfjafmgaahfhgaaW.PrintMore
attribute [local go_sem] max2_int min2_int max_two min_two max_three min_three max_four min_four   -- for this text's walks alone
set_option linter.unusedVariables false
set_option linter.unusedSimpArgs false

/-! the least voicing against any other -/
theorem insR_sorted9 (x : Int) : ∀ (o : List Int), o.Pairwise (· ≤ ·) → (insR x o).Pairwise (· ≤ ·) ∧ ∀ y ∈ insR x o, y = x ∨ y ∈ o
  | [], _ => ⟨List.pairwise_singleton _ _, fun y hy => .inl (by simpa [insR] using hy)⟩
  | z :: o, h => by
    have hp := List.pairwise_cons.1 h
    obtain ⟨h1, h2⟩ := insR_sorted9 x o hp.2
    unfold insR
    split
    · refine ⟨List.pairwise_cons.2 ⟨fun y hy => ?_, h1⟩, fun y hy => ?_⟩
      · rcases h2 y hy with rfl | hy
        · assumption
        · exact hp.1 y hy
      · rcases List.mem_cons.1 hy with rfl | hy
        · exact .inr (by simp)
        · exact (h2 y hy).imp id (fun h => by simp [h])
    · rename_i hzx
      refine ⟨List.pairwise_cons.2 ⟨fun y hy => ?_, h⟩, fun y hy => by simpa using hy⟩
      rcases List.mem_cons.1 hy with rfl | hy
      · omega
      · have := hp.1 y hy; omega
theorem risR_sorted9 (a : List Int) : (risR a).Pairwise (· ≤ ·) := by
  have key : ∀ (l o : List Int), o.Pairwise (· ≤ ·) → (l.foldl (fun o x => insR x o) o).Pairwise (· ≤ ·) := by
    intro l
    induction l with
    | nil => intro o h; exact h
    | cons x l ih => intro o h; rw [List.foldl_cons]; exact ih _ (insR_sorted9 x o h).1
  exact key a [] List.Pairwise.nil
/-- every voicing, put in order, is one of those gone through -/
theorem ris_mem {N k : Nat} {a : List Int} (ha : ∀ x ∈ a, 0 ≤ x ∧ x < (N : Int)) (hk : a.length = k) : ∃ u ∈ alN N k 0 [], nums u = risR a := by
  have hm : ∀ x ∈ risR a, 0 ≤ x ∧ x < (N : Int) := fun x hx => ha x ((risR_perm a).mem_iff.1 hx)
  have he : nums ((risR a).map Int.toNat) = risR a := by
    unfold nums
    rw [List.map_map]
    refine (List.map_congr_left (fun x hx => ?_)).trans (List.map_id _)
    show ((x.toNat : Nat) : Int) = x
    have := hm x hx; omega
  refine ⟨(risR a).map Int.toNat, (alN_iff k 0 [] _).2 ⟨_, rfl, by rw [List.length_map, (risR_perm a).length_eq, hk], fun y hy => ?_, ?_⟩, he⟩
  · obtain ⟨x, hx, rfl⟩ := List.mem_map.1 hy
    have := hm x hx; omega
  · refine List.pairwise_map.2 ((risR_sorted9 a).imp (fun {x y} h => ?_))
    omega
theorem alN_voi {N k : Nat} {v : List Nat} (hN : 2 ≤ N ∧ N ≤ 12) (hk : 1 ≤ k ∧ k ≤ 3) (h : v ∈ alN N k 0 []) : VoiN (N : Int) (nums v) ∧ v.length = k ∧ (nums v).Pairwise (· ≤ ·) := by
  obtain ⟨t, rfl, ht, hb, hs⟩ := (alN_iff k 0 [] v).1 h
  refine ⟨⟨by omega, by omega, by rw [nums_length]; omega, by rw [nums_length]; omega, fun x hx => ?_⟩, ht, ?_⟩
  · obtain ⟨y, hy, rfl⟩ := List.mem_map.1 hx
    have := hb y hy
    exact ⟨Int.natCast_nonneg _, by show (y : Int) < (N : Int); omega⟩
  · unfold nums
    exact List.pairwise_map.2 (hs.imp (fun {x y} h => by show (x : Int) ≤ (y : Int); omega))
theorem costL_perm {n : Int} {v v' : List Int} (hp : v'.Perm v) : ∀ (ls : List (List Int)), (∀ l ∈ ls, TwoN n v l ∧ TwoN n v' l) → ∀ c : Int, ls.foldl (fun c l => wrap64 (c + (bestV n v' l).2)) c = ls.foldl (fun c l => wrap64 (c + (bestV n v l).2)) c
  | [], _, _ => rfl
  | l :: ls, h, c => by
    rw [List.foldl_cons, List.foldl_cons, cost_perm (h l (by simp)).1 (h l (by simp)).2 hp]
    exact costL_perm hp ls (fun l hl => h l (by simp [hl])) _
theorem costL_bd {n : Int} {v : List Int} : ∀ (ls : List (List Int)) (c : Int), (∀ l ∈ ls, TwoN n v l) → 0 ≤ c → c + 1000 * ls.length ≤ 100000 → 0 ≤ ls.foldl (fun c l => wrap64 (c + (bestV n v l).2)) c ∧ ls.foldl (fun c l => wrap64 (c + (bestV n v l).2)) c ≤ c + 1000 * ls.length
  | [], c, _, h0, _ => ⟨h0, by simp⟩
  | l :: ls, c, h, h0, hb => by
    rw [List.foldl_cons]
    have h1 := cost_bd (h l (by simp))
    have h2 := cost_nonneg (h l (by simp))
    rw [List.length_cons] at hb ⊢
    rw [wrap_id (n := c + (bestV n v l).2) (by omega) (by omega)]
    have := costL_bd ls (c + (bestV n v l).2) (fun l hl => h l (by simp [hl])) (by omega) (by omega)
    omega
theorem sorted_perm : ∀ (a b : List Int), a.Pairwise (· ≤ ·) → b.Pairwise (· ≤ ·) → a.Perm b → a = b
  | [], b, _, _, h => h.nil_eq
  | x :: a, [], _, _, h => by have := h.length_eq; simp at this
  | x :: a, y :: b, ha, hb, h => by
    have h1 := List.pairwise_cons.1 ha
    have h2 := List.pairwise_cons.1 hb
    have hx : y ≤ x := by
      rcases List.mem_cons.1 (h.mem_iff.1 (List.mem_cons_self (a := x) (l := a))) with e | e
      · omega
      · exact h2.1 x e
    have hy : x ≤ y := by
      rcases List.mem_cons.1 (h.mem_iff.2 (List.mem_cons_self (a := y) (l := b))) with e | e
      · omega
      · exact h1.1 y e
    have e : x = y := by omega
    subst e
    rw [sorted_perm a b h1.2 h2.2 (List.perm_cons x |>.1 h)]
/-- for one list alone the least is the list put in order -/
theorem mid_one {N k : Nat} {l : List Int} (hN : 2 ≤ N ∧ N ≤ 12) (hk : 1 ≤ k ∧ k ≤ 3) (hl : VoiN (N : Int) l) (hlk : l.length = k) : ∃ d, midF (N : Int) [l] (alN N k 0 []) = some (risR l, d) := by
  obtain ⟨v, hv, hm, hall⟩ := mid_least (N : Int) [l] N k (by omega)
  obtain ⟨u, hu, hur⟩ := ris_mem (N := N) (k := k) hl.2.2.2.2 hlk
  obtain ⟨hvv, hvk, hvs⟩ := alN_voi hN hk hv
  obtain ⟨huv, huk, _⟩ := alN_voi hN hk hu
  have tv : TwoN (N : Int) (nums v) l := ⟨hvv, hl, by rw [nums_length]; omega⟩
  have tu : TwoN (N : Int) (nums u) l := ⟨huv, hl, by rw [nums_length]; omega⟩
  have hu0 : (bestV (N : Int) (nums u) l).2 = 0 := (cost_zero tu).2 (by rw [hur]; exact risR_perm l)
  have e1 : ∀ x : List Nat, TwoN (N : Int) (nums x) l → costL (N : Int) (nums x) [l] = (bestV (N : Int) (nums x) l).2 := fun x tx => by
    have h1 := cost_bd tx
    have h2 := cost_nonneg tx
    show wrap64 (0 + (bestV (N : Int) (nums x) l).2) = _
    rw [wrap_id (by omega) (by omega)]; omega
  have hv0 : (bestV (N : Int) (nums v) l).2 = 0 := by
    have h1 := hall u hu
    rw [e1 u tu, e1 v tv, hu0] at h1
    have := cost_nonneg tv
    omega
  have hp := (cost_zero tv).1 hv0
  have e := sorted_perm (nums v) (risR l) hvs (risR_sorted9 l) (hp.trans (risR_perm l).symm)
  exact ⟨_, by rw [hm, e]⟩

end Go.Proofs.Ytfjafmgaahfhgaa.P
namespace Go.Proofs.Ytfjafmgaahfhgaa.P
open Go.RowKit Go.Proofs.YtfjafmgaahfhgaaW.PrintWords Go.Proofs.YtfjafmgaahfhgaaW.PrintLast Go.Proofs.YtfjafmgaahfhgaaW.PrintMore
attribute [local go_sem] max2_int min2_int max_two min_two max_three min_three max_four min_four   -- for this text's walks alone
set_option linter.unusedVariables false
set_option linter.unusedSimpArgs false

/-! the law's lists -/
theorem lists_loop (l : List (List Int)) (hl : l.length < 9223372036854775808) : ∀ (rest pre : List (List Int)), l = pre ++ rest → Ev (fun k => sackbutlaw06_lists.l0 k ((pre.take 60).map (·.take 9)) l (l.length : Int) (pre.length : Int)) ((l.take 60).map (·.take 9)) := by
  intro rest
  induction rest with
  | nil =>
    intro pre hp
    have hlen : l.length = pre.length := by rw [hp]; simp
    have e : l = pre := by rw [hp]; simp
    refine Ev.succ ?_
    subst e
    simp only [sackbutlaw06_lists.l0, if_neg (show ¬ (l.length : Int) < (l.length : Int) by omega)]
    exact Ev.some _
  | cons v rest ih =>
    intro pre hp
    have hlen : l.length = pre.length + (rest.length + 1) := by rw [hp]; simp
    have hv : rd_L1 l (pre.length : Int) = v := by rw [hp]; exact rdL_mid
    have w1 : wrap64 ((pre.length : Int) + 1) = ((pre ++ [v]).length : Int) := by rw [wrap_id (by omega) (by omega)]; simp
    have go := ih (pre ++ [v]) (by rw [hp]; simp)
    have hle : ((pre.take 60).map (·.take 9)).length < 5864062014805 := by simp; omega
    refine Ev.succ ?_
    simp only [sackbutlaw06_lists.l0, if_pos (show (pre.length : Int) < (l.length : Int) by omega), if_pos (show (0 : Int) ≤ (pre.length : Int) by omega), hv, w1, if_pos hle]
    by_cases h60 : pre.length < 60
    · simp only [if_pos (show (pre.length : Int) < 60 by omega)]
      refine Ev.bind_some (list9_f v) ?_
      have e : ((pre ++ [v]).take 60).map (·.take 9) = (pre.take 60).map (·.take 9) ++ [v.take 9] := by
        rw [List.take_of_length_le (by simp; omega), List.take_of_length_le (by omega), List.map_append]; rfl
      rw [e] at go
      exact go
    · simp only [if_neg (show ¬ (pre.length : Int) < 60 by omega)]
      have e : (pre ++ [v]).take 60 = pre.take 60 := by rw [List.take_append_of_le_length (by omega)]
      rw [e] at go
      exact go
theorem lists_ev (l : List (List Int)) (hl : l.length < 9223372036854775808) : Ev (fun k => sackbutlaw06_lists.f k l) ((l.take 60).map (·.take 9)) := lists_loop l hl l [] rfl

end Go.Proofs.Ytfjafmgaahfhgaa.P
namespace Go.Proofs.Ytfjafmgaahfhgaa.P
open Go.RowKit Go.Proofs.YtfjafmgaahfhgaaW.PrintWords Go.Proofs.YtfjafmgaahfhgaaW.PrintLast Go.Proofs.YtfjafmgaahfhgaaW.PrintMore
attribute [local go_sem] max2_int min2_int max_two min_two max_three min_three max_four min_four   -- for this text's walks alone
set_option linter.unusedVariables false
set_option linter.unusedSimpArgs false

theorem less_int_f9 (x y : Int) : cmp_Less_int.f x y = some (decide (x < y)) := by
  unfold cmp_Less_int.f cmp_isNaN_int.f
  simp
theorem IsSorted_down9 (l : List Int) (hb : l.length < 9223372036854775807) (hs : l.Pairwise (· ≤ ·)) : ∀ i, i < l.length → Ev (fun k => slices_IsSorted_int_int.l0 k l (i : Int)) true
  | 0, _ => by
    refine Ev.succ ?_
    simp only [slices_IsSorted_int_int.l0, if_neg (show ¬ ((0 : Nat) : Int) > 0 by omega)]
    exact Ev.some _
  | i + 1, h => by
    have ih := IsSorted_down9 l hb hs i (by omega)
    have w1 : wrap64 (((i + 1 : Nat) : Int) - 1) = (i : Int) := by rw [wrap_id (by omega) (by omega)]; omega
    have hle : ¬ rd l ((i + 1 : Nat) : Int) < rd l (i : Int) := by
      rw [rd_get h, rd_get (show i < l.length by omega)]
      have := List.pairwise_iff_getElem.1 hs i (i + 1) (by omega) h (by omega)
      omega
    refine Ev.succ ?_
    simp only [slices_IsSorted_int_int.l0, if_pos (show ((i + 1 : Nat) : Int) > 0 by omega), if_pos (show (0 : Int) ≤ ((i + 1 : Nat) : Int) by omega), if_pos (show ((i + 1 : Nat) : Int) < (l.length : Int) by omega), w1, if_pos (show (0 : Int) ≤ (i : Int) by omega), if_pos (show (i : Int) < (l.length : Int) by omega)]
    refine Ev.bind_some (less_int_f9 _ _) ?_
    rw [decide_eq_false hle]
    simp only [Bool.false_eq_true, if_false]
    exact ih
theorem IsSorted_loop9 (l : List Int) (hb : l.length < 9223372036854775807) (hs : l.Pairwise (· ≤ ·)) : Ev (fun k => slices_IsSorted_int_int.f k l) true := by
  unfold slices_IsSorted_int_int.f
  rcases Nat.eq_zero_or_pos l.length with h | h
  · refine Ev.succ ?_
    have w1 : wrap64 ((l.length : Int) - 1) = -1 := by rw [wrap_id (by omega) (by omega)]; omega
    simp only [w1, slices_IsSorted_int_int.l0, if_neg (show ¬ (-1 : Int) > 0 by omega)]
    exact Ev.some _
  · have w1 : wrap64 ((l.length : Int) - 1) = ((l.length - 1 : Nat) : Int) := by rw [wrap_id (by omega) (by omega)]; omega
    rw [w1]
    exact IsSorted_down9 l hb hs (l.length - 1) (by omega)
theorem cmpL_anti : ∀ (a b : List Int), a.length = b.length → cmpL a b = - cmpL b a
  | [], [], _ => rfl
  | x :: a, y :: b, h => by
    have ih := cmpL_anti a b (by simpa using h)
    simp only [cmpL]
    by_cases h1 : x < y
    · simp [h1, show ¬ y < x by omega]
    · by_cases h2 : y < x
      · simp [h1, h2]
      · simp [h1, h2, ih]
theorem alone_loop {n : Int} (l : List (List Int)) (v other : List Int) (hl : l.length ≤ 8) (hv : ∀ x ∈ l, TwoN n v x ∧ TwoN n other x) (hle : costL n v l ≤ costL n other l) (heq : costL n v l = costL n other l → cmpL v (risR other) ≤ 0) (hlen : v.length = other.length) (h6 : v.length ≤ 6) : ∀ (rest pre : List (List Int)), l = pre ++ rest → Ev (fun q => sackbutlaw06_VoicesAlone.l0 q n other v (costL n v pre) (costL n other pre) l (l.length : Int) (pre.length : Int)) true := by
  intro rest
  induction rest with
  | nil =>
    intro pre hp
    have e : l = pre := by rw [hp]; simp
    subst e
    refine Ev.succ ?_
    simp only [sackbutlaw06_VoicesAlone.l0, if_neg (show ¬ (l.length : Int) < (l.length : Int) by omega), if_pos hle]
    refine Ev.ite (fun _ => Ev.bind_some awake_f (Ev.some _)) (fun hne => ?_)
    refine Ev.bind_some (rising_f other (by omega)) ?_
    refine Ev.bind (Compare_ev v (risR other) (by rw [(risR_perm other).length_eq]; exact hlen) (by omega)) ?_
    simp only [if_pos (heq (by omega))]
    exact Ev.bind_some awake_f (Ev.some _)
  | cons x rest ih =>
    intro pre hp
    have hlen2 : l.length = pre.length + (rest.length + 1) := by rw [hp]; simp
    have hx : rd_L1 l (pre.length : Int) = x := by rw [hp]; exact rdL_mid
    have w1 : wrap64 ((pre.length : Int) + 1) = ((pre ++ [x]).length : Int) := by rw [wrap_id (by omega) (by omega)]; simp
    have go := ih (pre ++ [x]) (by rw [hp]; simp)
    obtain ⟨t1, t2⟩ := hv x (by rw [hp]; simp)
    have f1 : voices_Cost.f n v x = some ((bestV n v x).2, 0) := by unfold voices_Cost.f; rw [if_pos t1]
    have f2 : voices_Cost.f n other x = some ((bestV n other x).2, 0) := by unfold voices_Cost.f; rw [if_pos t2]
    refine Ev.succ ?_
    simp only [sackbutlaw06_VoicesAlone.l0, if_pos (show (pre.length : Int) < (l.length : Int) by omega), if_pos (show (0 : Int) ≤ (pre.length : Int) by omega), hx, w1]
    refine Ev.bind_some (list9_f v) ?_
    refine Ev.bind_some (list9_f x) ?_
    rw [voi_take9 t1.1, voi_take9 t1.2.1]
    refine Ev.bind_some f1 ?_
    refine Ev.bind_some (list9_f other) ?_
    refine Ev.bind_some (list9_f x) ?_
    rw [voi_take9 t2.1, voi_take9 t2.2.1]
    refine Ev.bind_some f2 ?_
    simp only [if_true]
    rw [costL_snoc, costL_snoc] at go
    exact go
theorem VoicesAlone : sackbutlaw06_VoicesAlone.Pure := by
  intro n k l other _ _ hp1 hp2 ho1 _ _
  have hM : maxLen = 9223372036854775807 := rfl
  refine Ev.rounds (g := fun q => sackbutlaw06_VoicesAlone.f q n k l other) ?_
  unfold sackbutlaw06_VoicesAlone.f
  have hvc := refVcs_ev n k l (by omega) (fun v hv => by have := (hp2 v hv).1; omega)
  refine Ev.bind (lists_ev l (by omega)) ?_
  by_cases h : VcsN n k l
  · rw [vcs_cut n k l (.inr h)]
    have hR := (vcs_iff n k l).2 h
    obtain ⟨N, rfl⟩ : ∃ N : Nat, n = (N : Int) := ⟨n.toNat, by have := hR.2.1; omega⟩
    obtain ⟨K, rfl⟩ : ∃ K : Nat, k = (K : Int) := ⟨k.toNat, by have := hR.2.2.2.1; omega⟩
    obtain ⟨hall, hn1, hn2, hk1, hk2, hl1, hl2⟩ := hR
    have hN : 2 ≤ N ∧ N ≤ 12 := by omega
    have hK : 1 ≤ K ∧ K ≤ 3 := by omega
    obtain ⟨v, hv, hm, hmin⟩ := mid_least (N : Int) l N K (by omega)
    obtain ⟨hvv, hvk, hvs⟩ := alN_voi hN hK hv
    have hf : voices_Middle.f (N : Int) (K : Int) l = some (nums v, 0) := by unfold voices_Middle.f; rw [if_pos h, Int.toNat_natCast, Int.toNat_natCast, hm]; rfl
    refine Ev.bind_some hf ?_
    simp only [if_true]
    refine Ev.bind hvc ?_
    simp only [h, decide_true, Bool.not_true]
    refine Ev.succ ?_
    obtain ⟨l0, l', rfl⟩ : ∃ l0 l', l = l0 :: l' := by
      cases l with
      | nil => simp at hl1
      | cons a b => exact ⟨a, b, rfl⟩
    have h0 := hall l0 (by simp)
    have hone : VcsN (N : Int) (K : Int) [l0] := (vcs_iff _ _ _).1 ⟨fun x hx => by rw [List.mem_singleton] at hx; subst hx; exact h0, hn1, hn2, hk1, hk2, by simp, by simp⟩
    obtain ⟨d, hd⟩ := mid_one hN hK h0.1 (by omega)
    have hf1 : voices_Middle.f (N : Int) (K : Int) [l0] = some (risR l0, 0) := by unfold voices_Middle.f; rw [if_pos hone, Int.toNat_natCast, Int.toNat_natCast, hd]; rfl
    simp only [sackbutlaw06_VoicesAlone.j0, Bool.false_eq_true, if_false, if_pos (show (1 : Int) ≤ ((l0 :: l').length : Int) by rw [List.length_cons]; omega)]
    refine Ev.bind (lists_ev ((l0 :: l').take 1) (by simp)) ?_
    rw [show (l0 :: l').take 1 = [l0] from rfl, vcs_cut _ _ _ (.inr hone)]
    refine Ev.bind_some hf1 ?_
    simp only [if_true, if_pos (show (0 : Int) < ((l0 :: l').length : Int) by rw [List.length_cons]; omega)]
    rw [show rd_L1 (l0 :: l') 0 = l0 from rfl]
    have hl0 := h0.1.2.2.2.1
    refine Ev.bind_some (rising_f l0 (by omega)) ?_
    refine Ev.bind (Equal_ev _ _ (by rw [(risR_perm l0).length_eq]; omega)) ?_
    simp only [decide_true, if_true]
    refine Ev.bind (refVoicing_ev _ _ (by rw [nums_length]; omega)) ?_
    simp only [hvv, decide_true, if_true, nums_length, hvk]
    refine Ev.bind (IsSorted_loop9 _ (by rw [nums_length]; omega) hvs) ?_
    simp only [Bool.not_true]
    refine Ev.succ ?_
    simp only [sackbutlaw06_VoicesAlone.j1, Bool.false_eq_true, if_false]
    refine Ev.bind (refVoicing_ev _ other (by omega)) ?_
    by_cases hvo : VoiN (N : Int) other
    · simp only [hvo, decide_true, if_true]
      refine Ev.succ ?_
      by_cases hko : (other.length : Int) = (K : Int)
      · simp only [sackbutlaw06_VoicesAlone.j2, hko, bne_self_eq_false, Bool.false_eq_true, if_false]
        obtain ⟨u, hu, hur⟩ := ris_mem (N := N) (k := K) hvo.2.2.2.2 (by omega)
        obtain ⟨huv, huk, _⟩ := alN_voi hN hK hu
        have tall : ∀ x ∈ l0 :: l', TwoN (N : Int) (nums v) x ∧ TwoN (N : Int) other x := fun x hx => ⟨⟨hvv, (hall x hx).1, by rw [nums_length]; have := (hall x hx).2; omega⟩, ⟨hvo, (hall x hx).1, by have := (hall x hx).2; omega⟩⟩
        have hcu : costL (N : Int) (nums u) (l0 :: l') = costL (N : Int) other (l0 :: l') := costL_perm (by rw [hur]; exact risR_perm other) _ (fun x hx => ⟨(tall x hx).2, ⟨huv, (hall x hx).1, by rw [nums_length]; have := (hall x hx).2; omega⟩⟩) 0
        have hmu := hmin u hu
        rw [hcu] at hmu
        refine alone_loop (l0 :: l') (nums v) other (by omega) tall (by omega) (fun e => ?_) (by rw [nums_length]; omega) (by rw [nums_length]; omega) (l0 :: l') [] rfl
        have h7 : ¬ cmpL (nums u) (nums v) < 0 := by
          rcases hmu with h | h
          · omega
          · exact h.2
        have h8 := cmpL_anti (nums v) (nums u) (by rw [nums_length, nums_length]; omega)
        rw [← hur]; omega
      · have : ((other.length : Int) != (K : Int)) = true := bne_iff_ne.2 hko
        simp only [sackbutlaw06_VoicesAlone.j2, this, if_true]
        exact Ev.bind_some awake_f (Ev.some _)
    · simp only [hvo, decide_false, Bool.false_eq_true, if_false]
      refine Ev.succ ?_
      simp only [sackbutlaw06_VoicesAlone.j2, if_true]
      exact Ev.bind_some awake_f (Ev.some _)
  · have h9 : ¬ VcsN n k ((l.take 60).map (·.take 9)) := fun h2 => h (by rw [vcs_cut n k l (.inl h2)] at h2; exact h2)
    have hf : voices_Middle.f n k ((l.take 60).map (·.take 9)) = some ([], 2) := by unfold voices_Middle.f; rw [if_neg h9]
    refine Ev.bind_some hf ?_
    simp only [show ¬ ((2 : Int) = 0) by omega, if_false]
    refine Ev.succ ?_
    simp only [sackbutlaw06_VoicesAlone.j0, if_true]
    exact Ev.bind_some awake_f (Ev.some _)

end Go.Proofs.Ytfjafmgaahfhgaa.P
namespace Go.Proofs.Ytfjafmgaahfhgaa.Pure
theorem VoicesAlone : Go.Proofs.Ytfjafmgaahfhgaa.P.sackbutlaw06_VoicesAlone.Pure := Go.Proofs.Ytfjafmgaahfhgaa.P.VoicesAlone
end Go.Proofs.Ytfjafmgaahfhgaa.Pure
namespace Go.Proofs.Ytfjafmgaahfhgaa.P
open Go.RowKit Go.Proofs.YtfjafmgaahfhgaaW.PrintWords Go.Proofs.YtfjafmgaahfhgaaW.PrintLast Go.Proofs.YtfjafmgaahfhgaaW.PrintMore
attribute [local go_sem] max2_int min2_int max_two min_two max_three min_three max_four min_four   -- for this text's walks alone
set_option linter.unusedVariables false
set_option linter.unusedSimpArgs false

/-! an argument of slices of slices, as it came in -/
theorem mat_arg {H : Type} {enc : TypeId × Value → H} {w : World} {held : Bool} {a : Option Addr} {len cap fuel : Nat} {x : DataW H × List MemPlace}
    (h : DataW.trod enc Try.prog w 0 (fun _ => true) held fuel 22 [.slice a len cap] = some x) :
    ∃ L : List (List Int), L.length = len ∧ len ≤ cap ∧ cap ≤ maxLen ∧ Kd.C (Kd.slice 3 (Kd.int .i64)) w a len L ∧ ∀ r ∈ L, r.length ≤ maxLen ∧ ∀ n ∈ r, (Lit.int .i64 n).wf = true := by
  rcases Go.Deep.open_int_rows Try.underlying22 Try.underlying23 Try.underlying3 (by kernel_rfl) (by kernel_rfl) h with ⟨hcs, _⟩ | ⟨b, len', cap', A, L, C, Z, hcs, _, hl, hm, _, hr⟩
  · simp [Value.cells] at hcs
    obtain ⟨rfl, rfl, rfl⟩ := hcs
    exact ⟨[], rfl, Nat.le_refl _, Nat.zero_le _, ⟨rfl, by omega, fun hn => absurd hn (by omega)⟩, fun r hr => by cases hr⟩
  · simp [Value.cells] at hcs
    obtain ⟨rfl, rfl, rfl⟩ := hcs
    have hmx : len ≤ 9223372036854775807 := by
      have : maxLen ≤ 9223372036854775807 := by decide
      omega
    have zl : ∀ r, r < len → ((Z r).take (L r)).length = L r := fun r hlt => by
      obtain ⟨_, h1, h2, h3, _⟩ := hr r (by omega)
      rw [List.length_take]; omega
    have hlm : ∀ r, r < len → L r ≤ 9223372036854775807 := fun r hlt => by
      obtain ⟨_, h1, h2, _⟩ := hr r (by omega)
      have : maxLen ≤ 9223372036854775807 := by decide
      omega
    refine ⟨(List.range len).map fun r => (Z r).take (L r), by simp, hl, hm, ⟨by simp, hmx, fun hn => ⟨b, rfl, ?_⟩⟩, ?_⟩
    · intro j p hj
      rw [List.getElem?_map] at hj
      obtain ⟨q, hq, rfl⟩ := Option.map_eq_some_iff.1 hj
      obtain ⟨hjl, rfl⟩ := List.getElem?_eq_some_iff.1 hq
      rw [List.length_range] at hjl
      obtain ⟨h0, h1, h2, h3, h4, h5, h6⟩ := hr j (by omega)
      refine ⟨[.slice (A j) (L j) (C j)], rfl, ⟨A j, C j, ?_, ?_, ?_⟩, ?_⟩
      · simp [zl j hjl]
      · simp only [List.getElem_range]; rw [zl j hjl]; exact h1
      · simp only [List.getElem_range]
        rw [zl j hjl]
        refine Kd.C_of_reads (enc := Value.int .i64) (d := (0 : Int)) (h1 := fun _ => rfl) ⟨zl j hjl, hlm j hjl, fun hn => ?_⟩
        cases ha : A j with
        | none => have := h5 ha; omega
        | some a' =>
          refine ⟨a', rfl, fun i hi => ?_⟩
          rw [(h6 a' ha).2 i (by omega)]
          simp [List.getD_eq_getElem?_getD, List.getElem?_take, hi]
      · intro i u hu
        cases i with
        | zero => simp at hu; subst hu; rw [show j * (Kd.slice 3 (Kd.int .i64)).sz + 0 = j from Nat.mul_one j]; exact h0
        | succ i => simp at hu
    · intro r hr'
      obtain ⟨q, hq, rfl⟩ := List.mem_map.1 hr'
      have hql := List.mem_range.1 hq
      obtain ⟨_, h1, h2, h3, h4, _⟩ := hr q (by omega)
      exact ⟨by rw [zl q hql]; omega, fun n hn => h4 n (List.mem_of_mem_take hn)⟩
theorem mat_arg2 {H : Type} {enc : TypeId × Value → H} {w : World} {held : Bool} {a : Option Addr} {len cap : Nat} {d : DataW H} {ps : List MemPlace}
    (h : DataW.Trod enc Try.prog w 0 (fun _ => true) held 22 (.slice a len cap) d ps) :
    ∃ L : List (List Int), L.length = len ∧ len ≤ cap ∧ cap ≤ maxLen ∧ Kd.C (Kd.slice 23 (Kd.int .i64)) w a len L ∧ ∀ r ∈ L, r.length ≤ maxLen ∧ ∀ n ∈ r, (Lit.int .i64 n).wf = true := by
  obtain ⟨fuel, hf⟩ := h
  exact mat_arg hf

end Go.Proofs.Ytfjafmgaahfhgaa.P
namespace Go.Proofs.Ytfjafmgaahfhgaa.voicesAlone
open Go.ChangeShapes Go.WideShapes Go.ChangeAt Go.RowKit
open Go.ChangeMaps (open_string shut_string)
set_option linter.unusedVariables false
theorem own : ownKnob Try.prog.godebug = none := by kernel_rfl
theorem laidOut : laidOutB Try.prog = true := by kernel_rfl
def IsRow (k : IntKind) (w : World) (a : Option Addr) (len cap : Nat) (zs : List Int) : Prop :=
  (a = none ∧ len = 0 ∧ cap = 0 ∧ zs = []) ∨
  ∃ x, a = some x ∧ len ≤ cap ∧ cap ≤ maxLen ∧ zs.length = cap ∧ (∀ i, i < zs.length → w.cell? (x.add i) = some (.int k (zs.getD i 0))) ∧ ∀ n ∈ zs, (Lit.int k n).wf = true
set_option maxRecDepth 100000 in
theorem lifted (os : Os) (started : os.Started) (H : Type) (enc : TypeId × Value → H) :
    ReturnsInHanded {} Try.checked os 3 .any (Rows.voicesAloneSpec.pre6 enc Try.prog Try.f3 Rows.voicesAloneRow.domain false) (Rows.voicesAloneSpec.post enc Try.prog Try.f3 false true false false) := by
  refine returnsInHanded_of_change_sized (C := Try.checked) own started (by kernel_rfl) Try.func3
    (ChangeSpec.witness6 (enc := enc) (C := Try.checked) false ⟨#[], #[.int .i64 0, .int .i64 0, .slice none 0 0, .slice none 0 0], []⟩ 8 (by kernel_rfl) (by kernel_rfl) (by kernel_rfl) (by kernel_rfl)) ?_
  intro W base args ds gs before hval0 hW hcnd hsz0 _
  have hsz : (DataW.weightsEach Try.prog (Try.f3.params.toList ++ Rows.voicesAloneSpec.plain.varTypes Try.prog) (ds ++ gs)).all (· ≤ reachBytes) = true := hsz0
  have hval : ∀ (j : Nat) t v, Try.f3.params[j]? = some t → args[j]? = some v → Value.okWide Try.prog W .any base t v := hval0
  have hW' := hW
  obtain ⟨p, q, hA0, hV, rfl, hfz, hnd⟩ := hW
  have hA : DataW.TrodAll enc Try.prog W 0 (fun _ => true) true Try.f3.params.toList args.toList ds p := hA0
  rw [Try.params3] at hA hval hsz
  obtain ⟨v0, vs0, d0, ds0, p0, q0, hargs, rfl, rfl, h0, r0⟩ := trodAll_cons hA
  obtain ⟨v1, vs1, d1, ds1, p1, q1, rfl, rfl, rfl, h1, r1⟩ := trodAll_cons r0
  obtain ⟨v2, vs2, d2, ds2, p2, q2, rfl, rfl, rfl, h2, r2⟩ := trodAll_cons r1
  obtain ⟨v3, vs3, d3, ds3, p3, q3, rfl, rfl, rfl, h3, r3⟩ := trodAll_cons r2
  obtain ⟨rfl, rfl, rfl⟩ := trodAll_nil r3
  obtain rfl : args = #[v0, v1, v2, v3] := by cases args; simp_all
  obtain ⟨rfl, rfl⟩ := trodVars_none hV
  obtain ⟨a0, rfl, rfl, rfl, w0⟩ := open_int Try.underlying3 (hval 0 3 v0 rfl rfl) h0
  obtain ⟨a1, rfl, rfl, rfl, w1⟩ := open_int Try.underlying3 (hval 1 3 v1 rfl rfl) h1
  obtain ⟨a2, len2, cap2, rfl⟩ := okWide_slice Try.underlying22 (hval 2 22 v2 rfl rfl)
  have k2 := h2
  have lt2 : ∀ x ∈ p2, x.block < W.heap.size := by obtain ⟨m, hm⟩ := k2; exact DataW.trod_lt m _ _ _ hm
  obtain ⟨l2, e2, hc2, hm2, hr2, hw2⟩ := P.mat_arg2 h2
  subst e2
  have hm2 := Nat.le_trans hc2 hm2
  obtain ⟨a3, len3, cap3, rfl⟩ := okWide_slice Try.underlying23 (hval 3 23 v3 rfl rfl)
  have k3 := h3
  have lt3 : ∀ x ∈ p3, x.block < W.heap.size := by obtain ⟨m, hm⟩ := k3; exact DataW.trod_lt m _ _ _ hm
  obtain ⟨z3, w3⟩ : ∃ zs, IsRow .i64 W a3 len3 cap3 zs := by
    obtain ⟨fuel, hf⟩ := h3
    rcases open_ints Try.underlying23 Try.underlying3 (by kernel_rfl) hf with ⟨hcs, _⟩ | ⟨x, l, c, zs, hcs, _, hl, hm, hz, _, hcell, hwz⟩
    · simp [Value.cells] at hcs
      obtain ⟨rfl, rfl, rfl⟩ := hcs
      exact ⟨[], .inl ⟨rfl, rfl, rfl, rfl⟩⟩
    · simp [Value.cells] at hcs
      obtain ⟨rfl, rfl, rfl⟩ := hcs
      exact ⟨zs, .inr ⟨_, rfl, hl, hm, by simpa using hz, hcell, hwz⟩⟩
  have y3 : len3 * 8 ≤ 140737488351232 := Go.Proofs.YtfjafmgaahfhgaaW.PrintWords.sized_ints hsz (j := 3) (t := 23) rfl rfl Try.underlying23 Try.underlying3 (by kernel_rfl) (by kernel_rfl) h3
  clear hA0 hval0 hsz0 hsz
  refine (P.sackbutlaw06_VoicesAlone.walk Pure.VoicesAlone a0 a1 a2 cap2 l2 a3 len3 cap3 z3 W w0 w1 hr2 hc2 hm2 hw2 w3 y3).mono fun e W' ⟨he, bel⟩ => ?_
  subst he
  exact ⟨_, rfl, _, _, _, [], _, [], hW', trodAll_mk1 (shut_bool Try.underlying4 _), (trodAll_cons_mk (shut_int Try.underlying3 w0) (trodAll_cons_mk (shut_int Try.underlying3 w1) (trodAll_cons_mk (Below.trod laidOut (by kernel_rfl) (of_decide_eq_true (by kernel_rfl)) k2 bel lt2) (trodAll_cons_mk (Below.trod laidOut (by kernel_rfl) (of_decide_eq_true (by kernel_rfl)) k3 bel lt3) trodAll_mk0)))), rfl, bel.frame _, fun h => by cases h⟩
theorem over : Rows.voicesAloneRow.holds Try.pinned (OpenSpec.ofChange Rows.voicesAloneSpec) :=
  OpenClaim.holds_of_wide 3 Try.f3 rfl rfl rfl rfl rfl rfl rfl ⟨rfl, rfl, rfl, rfl, rfl⟩ rfl rfl rfl rfl rfl (by kernel_rfl) Try.func3 (by kernel_rfl)
    (of_decide_eq_true (by kernel_rfl)) (by unfold Func.isWrapper; first | (rw [if_pos (by decide +kernel)]; kernel_rfl) | (rw [if_neg (by decide +kernel)]; exact ⟨rfl, rfl⟩))
    (fun os started H enc _ => lifted os started H enc)
theorem proved : Rows.VoicesAloneSaid := over
#print axioms proved
end Go.Proofs.Ytfjafmgaahfhgaa.voicesAlone
namespace Go.Proofs.Ytfjafmgaahfhgaa
/-- The row, under a short name, for the claim. -/
theorem voicesAlone_holds : Rows.VoicesAloneSaid := voicesAlone.proved
end Go.Proofs.Ytfjafmgaahfhgaa
