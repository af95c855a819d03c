/- A part of a proof that a law's Go function returns true for every input, laid by this session's program mp.py (which drives the kit's print). Conditions: as each theorem states them. -/
import Derived.StillTailTactics
import Derived.Laws.EntriesVeiled
import Derived.Shelf.Abstract
import Derived.Test.YtknchioabngbiaaCRowsKnown1
import Derived.Test.YtknchioabngbiaaCRowsKnown2
namespace Go.Proofs.Ytknchioabngbiaa.P
open Go.RowKit Go.Proofs.YtknchioabngbiaaW.PrintWords Go.Proofs.YtknchioabngbiaaW.PrintLast Go.Proofs.YtknchioabngbiaaW.PrintMore
attribute [local go_sem] max2_int min2_int max_two min_two max_three min_three max_four min_four   -- for this text's walks alone
set_option linter.unusedVariables false
set_option linter.unusedSimpArgs false

/-! rows.search.all: all rows that begin so, in order, handed to a function -/
/-- all full rows that begin so, in order -/
def srch (n : Nat) : Nat → List Nat → Nat → Nat → List (List Nat)
  | 0, cur, _, _ => [cur]
  | r + 1, cur, t, s => (List.range n).flatMap fun x => match addS n cur t s x with
    | none => []
    | some p => srch n r (cur ++ [x]) p.1 p.2
def srchTo (n r : Nat) (cur : List Nat) (t s m : Nat) : List (List Nat) := (List.range m).flatMap fun x => match addS n cur t s x with
    | none => []
    | some p => srch n r (cur ++ [x]) p.1 p.2
theorem srchTo_succ (n r : Nat) (cur : List Nat) (t s m : Nat) : srchTo n r cur t s (m + 1) = srchTo n r cur t s m ++ (match addS n cur t s m with | none => [] | some p => srch n r (cur ++ [m]) p.1 p.2) := by
  unfold srchTo; rw [List.range_succ]; simp
section
variable {σ : Type} (step : σ → List Nat → σ) (go : σ → List Nat → Bool)
/-- what a function that may stop does with a list -/
def runL : List (List Nat) → σ → σ × Bool
  | [], q => (q, true)
  | x :: l, q => if go q x then runL l (step q x) else (step q x, false)
theorem runL_app : ∀ (l m : List (List Nat)) (q : σ), runL step go (l ++ m) q = if (runL step go l q).2 = true then runL step go m (runL step go l q).1 else runL step go l q
  | [], _, _ => rfl
  | x :: l, m, q => by
    rw [List.cons_append, runL, runL]
    cases go q x with
    | true => simp only [if_true]; exact runL_app l m (step q x)
    | false => simp
/-- every row that the run hands over is a fit one -/
def RunOk (Q : σ → List Nat → Prop) : List (List Nat) → σ → Prop
  | [], _ => True
  | x :: l, q => Q q x ∧ (go q x = true → RunOk Q l (step q x))
theorem runOk_app (Q : σ → List Nat → Prop) : ∀ (l m : List (List Nat)) (q : σ), RunOk step go Q (l ++ m) q → RunOk step go Q l q ∧ ((runL step go l q).2 = true → RunOk step go Q m (runL step go l q).1)
  | [], _, _, h => ⟨trivial, fun _ => h⟩
  | x :: l, m, q, h => by
    rw [List.cons_append, RunOk] at h
    rw [RunOk, runL]
    cases hg : go q x with
    | true =>
      have := runOk_app Q l m (step q x) (h.2 hg)
      simp only [if_true]
      exact ⟨⟨h.1, fun _ => this.1⟩, this.2⟩
    | false => exact ⟨⟨h.1, fun h => (by cases h)⟩, fun h => (by simp at h)⟩
theorem runOk_true : ∀ (l : List (List Nat)) (q : σ), RunOk step go (fun _ _ => True) l q
  | [], _ => trivial
  | _ :: l, q => ⟨trivial, fun _ => runOk_true l _⟩
theorem runOk_at (Q : σ → List Nat → Prop) {n r x : Nat} {cur : List Nat} {t s : Nat} {q : σ} {p : Nat × Nat} (h : RunOk step go Q (srchTo n r cur t s n) q) (hx : x < n) (ht : (runL step go (srchTo n r cur t s x) q).2 = true) (ho : addS n cur t s x = some p) : RunOk step go Q (srch n r (cur ++ [x]) p.1 p.2) (runL step go (srchTo n r cur t s x) q).1 := by
  obtain ⟨d, hd⟩ : ∃ d, n = x + 1 + d := ⟨n - (x + 1), by omega⟩
  have key : ∀ d, ∃ z, srchTo n r cur t s (x + 1 + d) = srchTo n r cur t s (x + 1) ++ z := by
    intro d
    induction d with
    | zero => exact ⟨[], by simp⟩
    | succ d ih => obtain ⟨z, hz⟩ := ih; rw [← Nat.add_assoc, srchTo_succ, hz]; exact ⟨_, List.append_assoc _ _ _⟩
  obtain ⟨z, hz⟩ := key d
  rw [← hd] at hz
  rw [hz, srchTo_succ, ho] at h
  exact (runOk_app step go Q _ _ q (runOk_app step go Q _ _ q h).1).2 ht
end
section
variable {σ : Type} (n g : Nat) (lb : Array Value) (P : World → Nat → Prop) (J : σ → World → Prop) (step : σ → List Nat → σ) (go : σ → List Nat → Bool)
structure SInter : Prop where
  keep : ∀ q A B, J q A → Below A.heap.size A B → J q B ∧ ∀ i, P B i ↔ P A i
  lt : ∀ q A i, J q A → P A i → i < A.heap.size
def SPost (W : World) (r : σ × Bool) (e : Ending) (W' : World) : Prop := e = .returned (.bool r.2) ∧ J r.1 W' ∧ Fr (fun i => ¬ P W i ∧ i < W.heap.size) W W' ∧ ∀ i, P W' i → P W i ∨ W.heap.size ≤ i
def MoreS : Prop := ∀ (q : σ) (x : List Nat) (A : Option Addr) (c : Nat) (W : World), J q W → x.length = n → (∀ y ∈ x, y < n) → (nums x).length ≤ c → Kd.C (Kd.int .i64) W A (nums x).length (nums x) → (∀ b, A = some b → ¬ P W b.block ∧ b.block < W.heap.size) →
  Calls Try.prog g (#[.slice A (nums x).length c] ++ lb) W (SPost P J W (step q x, go q x))
def MoreQ (Q : σ → List Nat → Prop) : Prop := ∀ (q : σ) (x : List Nat) (A : Option Addr) (c : Nat) (W : World), Q q x → J q W → x.length = n → (∀ y ∈ x, y < n) → (nums x).length ≤ c → Kd.C (Kd.int .i64) W A (nums x).length (nums x) → (∀ b, A = some b → ¬ P W b.block ∧ b.block < W.heap.size) →
  Calls Try.prog g (#[.slice A (nums x).length c] ++ lb) W (SPost P J W (step q x, go q x))
def AllT (cur : List Nat) (t s : Nat) (q : σ) (A : Option Addr) (c : Nat) (W : World) (r : σ × Bool) : Prop :=
  Calls Try.prog 30 #[.agg #[.int .i64 (n : Int), .slice A (nums cur).length c, .int .i64 (t : Int), .int .i64 (s : Int)], .func (.func g) #[] lb] W (SPost P J W r)
end
theorem C_fr {w w' : World} {K : Nat → Prop} {A : Option Addr} {m : Nat} {xs : List Int} (h : Kd.C (Kd.int .i64) w A m xs) (hA : ∀ b, A = some b → K b.block) (hf : Fr K w w') : Kd.C (Kd.int .i64) w' A m xs := by
  obtain ⟨h1, h2, h3⟩ := h
  refine ⟨h1, h2, fun hn => ?_⟩
  obtain ⟨ad, e, hc⟩ := h3 hn
  refine ⟨ad, e, fun j p hp => ?_⟩
  obtain ⟨c, hcl, hR, hcc⟩ := hc j p hp
  refine ⟨c, hcl, hR, fun i u hu => ?_⟩
  have h4 := hcc i u hu
  rw [World.cell?_of_block (hf.block _ (by rw [add_block_]; exact hA ad e))]
  exact h4
theorem srchTo_stop {σ : Type} (step : σ → List Nat → σ) (go : σ → List Nat → Bool) {n r x : Nat} {cur : List Nat} {t s : Nat} {q : σ} (h : (runL step go (srchTo n r cur t s (x + 1)) q).2 = false) (hx : x < n) : runL step go (srchTo n r cur t s n) q = runL step go (srchTo n r cur t s (x + 1)) q := by
  obtain ⟨d, hd⟩ : ∃ d, n = x + 1 + d := ⟨n - (x + 1), by omega⟩
  have key : ∀ d, runL step go (srchTo n r cur t s (x + 1 + d)) q = runL step go (srchTo n r cur t s (x + 1)) q := by
    intro d
    induction d with
    | zero => rfl
    | succ d ih => rw [← Nat.add_assoc, srchTo_succ, runL_app, ih, h]; rfl
  have := key d
  rwa [← hd] at this
section
variable {σ : Type} {n g : Nat} {lb : Array Value} {P : World → Nat → Prop} {J : σ → World → Prop} {step : σ → List Nat → σ} {go : σ → List Nat → Bool}
theorem SPost.below {W W1 : World} {r : σ × Bool} {e : Ending} {W' : World} (hI : SInter P J) {q : σ} (hJ : J q W) (hb : Below W.heap.size W W1) (h : SPost P J W1 r e W') : SPost P J W r e W' := by
  obtain ⟨h1, h2, h3, h4⟩ := h
  have hk := (hI.keep q W W1 hJ hb).2
  refine ⟨h1, h2, ⟨h3.os.trans hb.os, h3.tape.trans hb.tape, h3.output.trans hb.output, Nat.le_trans hb.size h3.size, fun i hi => (h3.block i ⟨fun h => hi.1 ((hk i).1 h), Nat.lt_of_lt_of_le hi.2 hb.size⟩).trans (hb.block i hi.2)⟩, fun i hi => ?_⟩
  rcases h4 i hi with h | h
  · exact .inl ((hk i).1 h)
  · exact .inr (Nat.le_trans hb.size h)
set_option maxHeartbeats 4000000 in
set_option maxRecDepth 100000 in
theorem all_end (eg : ∀ args w, (callFunc g args).run Try.prog w = .ok (.enter g args) w) (hI : SInter P J) {Q : σ → List Nat → Prop} (hM : MoreQ n g lb P J step go Q) {cur : List Nat} {t s : Nat} {q : σ} {A : Option Addr} {c : Nat} {W : World} (hQ : Q q cur) (hc : cur.length = n) (hcur : ∀ y ∈ cur, y < n) (hJ : J q W) (hcap : (nums cur).length ≤ c) (hC : Kd.C (Kd.int .i64) W A (nums cur).length (nums cur)) (hA : ∀ b, A = some b → ¬ P W b.block ∧ b.block < W.heap.size) :
    AllT n g lb P J cur t s q A c W (runL step go [cur] q) := by
  unfold AllT
  have hlen : (nums cur).length = n := by rw [nums_length, hc]
  have hb0 : Below W.heap.size W (W.alloc (.cells #[.int .i64 (n : Int), .slice A (nums cur).length c, .int .i64 (t : Int), .int .i64 (s : Int)] 59)) := below_alloc (Below.refl _ _) _
  have hk := hI.keep q W _ hJ hb0
  have hrun := hM q cur A c _ hQ hk.1 hc hcur hcap (Kd.C_below hC hb0) (fun b hb => ⟨fun h => (hA b hb).1 ((hk.2 _).1 h), Nat.lt_of_lt_of_le (hA b hb).2 hb0.size⟩)
  have HB0 := Aside0.mk hb0
  have HJ := Aside0.mk hJ
  have HI := Aside0.mk hI
  rw [hlen] at hrun HB0 ⊢
  have HRUN := Aside0.mk hrun
  clear hrun hk hb0 hM hJ hI hA hC hcap hcur hc hlen hQ
  go_enter Try.func30, Try.ntmps30
  go_wp2_with fail
  refine HRUN.out.mono ?_
  rintro e w' hp
  have h := SPost.below HI.out HJ.out HB0.out hp
  obtain ⟨rfl, h2, h3, h4⟩ := h
  have H2 := Aside0.mk h2
  have H3 := Aside0.mk h3
  have H4 := Aside0.mk h4
  clear hp h2 h3 h4
  go_wp2
  go_ret
  refine ⟨?_, ?_, H3.out, H4.out⟩
  · unfold runL; cases go q cur <;> rfl
  · have h := H2.out
    unfold runL
    cases hg : go q cur
    · exact h
    · exact h
set_option maxHeartbeats 4000000 in
set_option maxRecDepth 100000 in
theorem all_more (hI : SInter P J) {Q : σ → List Nat → Prop} (r : Nat) (hn : 1 ≤ n) (hn2 : n ≤ 40) {cur : List Nat} {t s : Nat} {q : σ} {A : Option Addr} {c : Nat} {W : World} (hRO : RunOk step go Q (srchTo n r cur t s n) q) (hc : cur.length + (r + 1) = n) (hcur : ∀ y ∈ cur, y < n) (ht : t < 2 ^ n) (hs : s < 2 ^ n) (hJ : J q W) (hcap : (nums cur).length ≤ c) (hC : Kd.C (Kd.int .i64) W A (nums cur).length (nums cur)) (hA : ∀ b, A = some b → ¬ P W b.block ∧ b.block < W.heap.size)
    (ih : ∀ (x t' s' : Nat) (q : σ) (A : Option Addr) (c : Nat) (W : World), x < n → t' < 2 ^ n → s' < 2 ^ n → J q W → (nums (cur ++ [x])).length ≤ c → Kd.C (Kd.int .i64) W A (nums (cur ++ [x])).length (nums (cur ++ [x])) → (∀ b, A = some b → ¬ P W b.block ∧ b.block < W.heap.size) →
      RunOk step go Q (srch n r (cur ++ [x]) t' s') q → AllT n g lb P J (cur ++ [x]) t' s' q A c W (runL step go (srch n r (cur ++ [x]) t' s') q)) :
    AllT n g lb P J cur t s q A c W (runL step go (srchTo n r cur t s n) q) := by
  unfold AllT
  obtain ⟨L, hlen⟩ : ∃ L, (nums cur).length = L := ⟨_, rfl⟩
  have hne : ((L : Int) == (n : Int)) = false := beq_eq_false_iff_ne.2 (by rw [nums_length] at hlen; omega)
  have HL := Aside0.mk hlen
  have HRO := Aside0.mk hRO
  have HC := Aside0.mk hC
  have HCAP := Aside0.mk hcap
  have HA := Aside0.mk hA
  have HJ := Aside0.mk hJ
  have HI := Aside0.mk hI
  have HIH := Aside0.mk ih
  have HCUR := Aside0.mk hcur
  have HT := Aside0.mk ht
  have HS := Aside0.mk hs
  have HCL := Aside0.mk hc
  rw [hlen] at hcap ⊢
  clear hC hA hJ hI ih hcur ht hs hlen hc hRO
  go_enter Try.func30, Try.ntmps30
  go_wp2
  have hb0 : Below W.heap.size W (W.alloc (.cells #[.int .i64 (n : Int), .slice A L c, .int .i64 (t : Int), .int .i64 (s : Int)] 59)) := below_alloc (Below.refl _ _) _
  have hblk := World.alloc_heap_new W (.cells #[.int .i64 (n : Int), .slice A L c, .int .i64 (t : Int), .int .i64 (s : Int)] 59)
  have hsz : (W.alloc (.cells #[.int .i64 (n : Int), .slice A L c, .int .i64 (t : Int), .int .i64 (s : Int)] 59)).heap.size = W.heap.size + 1 := World.size_alloc _ _
  generalize W.alloc (.cells #[.int .i64 (n : Int), .slice A L c, .int .i64 (t : Int), .int .i64 (s : Int)] 59) = W1 at hb0 hblk hsz ⊢
  have hk := HI.out.keep q W W1 HJ.out hb0
  have HB0 := Aside0.mk hb0
  have HBLK := Aside0.mk hblk
  have HSZ := Aside0.mk hsz
  have HJ1 := Aside0.mk hk.1
  have HP1 := Aside0.mk (show ¬ P W1 W.heap.size from fun h => by have := HI.out.lt q W _ HJ.out ((hk.2 _).1 h); omega)
  have HA1 := Aside0.mk (show ∀ b, A = some b → ¬ P W1 b.block ∧ b.block < W1.heap.size from fun b hb => ⟨fun h => (HA.out b hb).1 ((hk.2 _).1 h), Nat.lt_of_lt_of_le (HA.out b hb).2 hb0.size⟩)
  have HC1 := Aside0.mk (Kd.C_below HC.out hb0)
  clear hb0 hblk hsz hk
  go_loopg [20] n (fun gg s20 wr => ∃ x : Nat, s20 = .int .i64 x ∧ Aside0 (x + gg = n) ∧ Aside0 (J (runL step go (srchTo n r cur t s x) q).1 wr) ∧ Aside0 ((runL step go (srchTo n r cur t s x) q).2 = true) ∧ Aside0 (Fr (fun i => ¬ P W1 i ∧ i < W1.heap.size) W1 wr) ∧ Aside0 (∀ i, P wr i → P W1 i ∨ W1.heap.size ≤ i))
  case atStart => exact ⟨0, rfl, ⟨by omega⟩, HJ1, ⟨rfl⟩, ⟨Fr.refl _ _⟩, ⟨fun i h => .inl h⟩⟩
  case round =>
    obtain ⟨x, rfl, HX, HJX, HTX, HF, HPX⟩ := hrel
    obtain ⟨wo, rfl⟩ : ∃ wo : World, wo = wr := ⟨wr, rfl⟩
    have HSC := Aside0.mk (srchTo_succ n r cur t s x)
    by_cases hlt : x < n
    · have hltz : (x : Int) < (n : Int) := by omega
      have HRA := Aside0.mk (show runL step go (srchTo n r cur t s (x + 1)) q = runL step go (match addS n cur t s x with | none => [] | some p => srch n r (cur ++ [x]) p.1 p.2) (runL step go (srchTo n r cur t s x) q).1 from by rw [HSC.out, runL_app, HTX.out, if_pos rfl])
      have HRX := Aside0.mk (fun (p : Nat × Nat) (ho : addS n cur t s x = some p) => runOk_at step go Q HRO.out hlt HTX.out ho)
      generalize hqx : (runL step go (srchTo n r cur t s x) q).1 = qx at HJX HRA HRX
      clear hqx
      have hblk := (HF.out.block W.heap.size ⟨HP1.out, by have := HSZ.out; omega⟩).trans HBLK.out
      obtain ⟨q0, q1, q2, q3⟩ := four_cells hblk
      have HCW := Aside0.mk (C_fr HC1.out (fun b hb => HA1.out b hb) HF.out)
      have hadd := add_calls (n := n) (cur := cur) (t := t) (s := s) (x := x) (A := A) (c := c) (W := wo) hn hn2 hlt HT.out HS.out HCUR.out (by have := HCL.out; omega) HCW.out HCAP.out
      rw [HL.out] at hadd
      have HADD := Aside0.mk hadd
      clear hblk hadd
      cases ho : addS n cur t s x with
      | none =>
        rw [ho] at HADD HRA
        clear ho
        go_wp2_with fail
        refine HADD.out.mono ?_
        rintro e w1 ⟨hb1, A9, l9, c9, t9, s9, rfl⟩
        have HB1 := Aside0.mk (below_alloc hb1 (.cells #[.int .i64 (n : Int), .slice A9 l9 c9, .int .i64 t9, .int .i64 s9] 59))
        clear hb1
        go_wp2
        have hk := HI.out.keep qx wo _ HJX.out HB1.out
        go_roundg (gk - 1)
        case measure => have := HX.out; omega
        case rel =>
          refine ⟨x + 1, by go_num, ⟨by have := HX.out; omega⟩, ⟨by rw [HRA.out]; exact hk.1⟩, ⟨by rw [HRA.out]; rfl⟩, ⟨HF.out.trans (Fr.of_below HB1.out (fun i hi => Nat.lt_of_lt_of_le hi.2 HF.out.size))⟩, ⟨fun i hi => HPX.out i ((hk.2 i).1 hi)⟩⟩
      | some p =>
        obtain ⟨t2, s2⟩ := p
        have HLT := Aside0.mk (addS_lt hlt HT.out HS.out ho)
        have HRY := Aside0.mk (HRX.out _ ho)
        rw [ho] at HADD HRA
        clear ho
        obtain ⟨L1, hL1⟩ : ∃ L1, (nums (cur ++ [x])).length = L1 := ⟨_, rfl⟩
        have HL1 := Aside0.mk hL1
        clear hL1
        go_wp2_with fail
        refine HADD.out.mono ?_
        rintro e w1 ⟨hb1, A9, c9, rfl, hR9⟩
        have hRC := Kd.R_reads' hR9
        have hb2 := below_alloc hb1 (.cells #[.int .i64 (n : Int), .slice A9 L1 c9, .int .i64 (t2 : Int), .int .i64 (s2 : Int)] 59)
        have hk := HI.out.keep qx wo _ HJX.out hb2
        have hrun := HIH.out x t2 s2 qx A9 c9 (w1.alloc (.cells #[.int .i64 (n : Int), .slice A9 L1 c9, .int .i64 (t2 : Int), .int .i64 (s2 : Int)] 59)) hlt HLT.out.1 HLT.out.2 hk.1 hRC.2.1 (Kd.C_alloc hRC.2.2 _) (fun b hb => ⟨fun h => by
          have h1 := HI.out.lt qx wo _ HJX.out ((hk.2 _).1 h)
          have h2 := Kd.R_base hR9 b.block (by rw [hb]; rfl)
          omega, by
          have h2 := Kd.R_lt hR9 b.block (by rw [hb]; rfl)
          rw [World.size_alloc]; omega⟩) HRY.out
        unfold AllT at hrun
        rw [HL1.out] at hrun ⊢
        have HRUN := Aside0.mk hrun
        have HB2 := Aside0.mk hb2
        clear hb1 hR9 hRC hb2 hk hrun
        go_wp2_with fail
        refine HRUN.out.mono ?_
        rintro e w3 hp
        have h := SPost.below HI.out HJX.out HB2.out hp
        rw [← HRA.out] at h
        obtain ⟨rfl, h2, h3, h4⟩ := h
        have H2 := Aside0.mk h2
        have H3 := Aside0.mk (HF.out.trans ⟨h3.os, h3.tape, h3.output, h3.size, fun i hi => h3.block i ⟨fun h => (HPX.out i h).elim hi.1 (fun h => by have := hi.2; omega), Nat.lt_of_lt_of_le hi.2 HF.out.size⟩⟩)
        have H4 := Aside0.mk (show ∀ i, P w3 i → P W1 i ∨ W1.heap.size ≤ i from fun i hi => by
          rcases h4 i hi with h | h
          · exact HPX.out i h
          · exact .inr (Nat.le_trans HF.out.size h))
        clear hp h2 h3 h4
        cases hgo : (runL step go (srchTo n r cur t s (x + 1)) q).2 with
        | true =>
          have HGO := Aside0.mk hgo
          clear hgo
          go_wp2
          go_roundg (gk - 1)
          case measure => have := HX.out; omega
          case rel => exact ⟨x + 1, by go_num, ⟨by have := HX.out; omega⟩, H2, HGO, H3, H4⟩
        | false =>
          have HGO := Aside0.mk hgo
          have HST := Aside0.mk (srchTo_stop step go hgo hlt)
          clear hgo
          go_wp2
          go_ret
          rw [HST.out]
          exact SPost.below HI.out HJ.out HB0.out ⟨by rw [HGO.out]; rfl, H2.out, H3.out, H4.out⟩
    · have hxn : x = n := by have := HX.out; omega
      have HXN := Aside0.mk hxn
      clear hxn
      have hltz : ¬ (x : Int) < (n : Int) := by omega
      go_wp2
      go_ret
      have e := HXN.out
      have h1 := HJX.out
      have h2 := HTX.out
      rw [e] at h1 h2
      exact SPost.below HI.out HJ.out HB0.out ⟨by rw [h2]; rfl, h1, HF.out, HPX.out⟩
theorem all_callsQ (eg : ∀ args w, (callFunc g args).run Try.prog w = .ok (.enter g args) w) (hI : SInter P J) {Q : σ → List Nat → Prop} (hM : MoreQ n g lb P J step go Q) (hn : 1 ≤ n) (hn2 : n ≤ 40) : ∀ (r : Nat) {cur : List Nat} {t s : Nat} {q : σ} {A : Option Addr} {c : Nat} {W : World}, RunOk step go Q (srch n r cur t s) q → cur.length + r = n → (∀ y ∈ cur, y < n) → t < 2 ^ n → s < 2 ^ n → J q W → (nums cur).length ≤ c → Kd.C (Kd.int .i64) W A (nums cur).length (nums cur) → (∀ b, A = some b → ¬ P W b.block ∧ b.block < W.heap.size) →
    AllT n g lb P J cur t s q A c W (runL step go (srch n r cur t s) q) := by
  intro r
  induction r with
  | zero => intro cur t s q A c W hRO hc hcur _ _ hJ hcap hC hA; exact all_end eg hI hM hRO.1 (by omega) hcur hJ hcap hC hA
  | succ r ih =>
    intro cur t s q A c W hRO hc hcur ht hs hJ hcap hC hA
    exact all_more hI (Q := Q) r hn hn2 hRO hc hcur ht hs hJ hcap hC hA (fun x t' s' q A c W hx ht hs hJ hcap hC hA hRO => ih hRO (by rw [List.length_append, List.length_singleton]; omega) (fun y hy => by
      rcases List.mem_append.1 hy with h | h
      · exact hcur y h
      · rw [List.mem_singleton] at h; omega) ht hs hJ hcap hC hA)
theorem all_calls (eg : ∀ args w, (callFunc g args).run Try.prog w = .ok (.enter g args) w) (hI : SInter P J) (hM : MoreS n g lb P J step go) (hn : 1 ≤ n) (hn2 : n ≤ 40) (r : Nat) {cur : List Nat} {t s : Nat} {q : σ} {A : Option Addr} {c : Nat} {W : World} (hc : cur.length + r = n) (hcur : ∀ y ∈ cur, y < n) (ht : t < 2 ^ n) (hs : s < 2 ^ n) (hJ : J q W) (hcap : (nums cur).length ≤ c) (hC : Kd.C (Kd.int .i64) W A (nums cur).length (nums cur)) (hA : ∀ b, A = some b → ¬ P W b.block ∧ b.block < W.heap.size) :
    AllT n g lb P J cur t s q A c W (runL step go (srch n r cur t s) q) := all_callsQ eg hI (Q := fun _ _ => True) (fun q x A c W _ => hM q x A c W) hn hn2 r (runOk_true step go _ _) hc hcur ht hs hJ hcap hC hA
end

end Go.Proofs.Ytknchioabngbiaa.P
namespace Go.Proofs.Ytknchioabngbiaa.P
open Go.RowKit Go.Proofs.YtknchioabngbiaaW.PrintWords Go.Proofs.YtknchioabngbiaaW.PrintLast Go.Proofs.YtknchioabngbiaaW.PrintMore
attribute [local go_sem] max2_int min2_int max_two min_two max_three min_three max_four min_four   -- for this text's walks alone
set_option linter.unusedVariables false
set_option linter.unusedSimpArgs false

/-! rows.search.first: the first row that begins so -/
def optL (o : Option (List Nat)) : List Int := nums (o.getD [])
structure FstJ (S : Nat) (q : Option (List Nat)) (W : World) : Prop where
  c : ∃ A c, W.cell? ⟨S, 0, none⟩ = some (.slice A (optL q).length c) ∧ (optL q).length ≤ c ∧ Kd.C (Kd.int .i64) W A (optL q).length (optL q) ∧ A.isNone = q.isNone ∧ ∀ b, A = some b → b.block < W.heap.size
  f : W.frozen? ⟨S, 0, none⟩ = false
theorem fst_inter (S : Nat) : SInter (fun _ i => i = S) (FstJ S) := by
  refine ⟨fun q A B h hb => ⟨?_, fun i => Iff.rfl⟩, fun q A i h hp => ?_⟩
  · obtain ⟨⟨Ad, c, h1, h2, h3, h4, h5⟩, hf⟩ := h
    have hl : S < A.heap.size := World.block_lt_of_cell? A _ h1
    exact ⟨⟨Ad, c, (hb.cell (p := ⟨S, 0, none⟩) hl).trans h1, h2, Kd.C_below h3 hb, h4, fun b e => Nat.lt_of_lt_of_le (h5 b e) hb.size⟩, (hb.frozen (p := ⟨S, 0, none⟩) hl).trans hf⟩
  · obtain ⟨⟨Ad, c, h1, _⟩, _⟩ := h
    subst hp
    exact World.block_lt_of_cell? A _ h1
set_option maxHeartbeats 2000000 in
set_option maxRecDepth 100000 in
theorem first1_more (n S : Nat) (hn : 1 ≤ n) : MoreS n 54 #[.pointer (some ⟨S, 0, none⟩)] (fun _ i => i = S) (FstJ S) (fun _ x => some x) (fun _ _ => false) := by
  intro q x A c W hJ hx hxr hc hC hA
  obtain ⟨⟨A0, c0, h1, h2, h3, h4, h5⟩, hf⟩ := hJ
  obtain ⟨L0, hL0⟩ : ∃ L0, (optL q).length = L0 := ⟨_, rfl⟩
  rw [hL0] at h1
  have hS : S < W.heap.size := World.block_lt_of_cell? W _ h1
  have HC := Aside0.mk hC
  have HA := Aside0.mk hA
  have HCAP := Aside0.mk hc
  have HX := Aside0.mk hx
  have HS := Aside0.mk hS
  have H1 := Aside0.mk h1
  have HF := Aside0.mk hf
  show Calls Try.prog 54 #[.slice A (nums x).length c, .pointer (some ⟨S, 0, none⟩)] W _
  obtain ⟨L, hL⟩ : ∃ L, (nums x).length = L := ⟨_, rfl⟩
  have HL := Aside0.mk hL
  rw [hL]
  clear hC hA hc hx hS h2 h3 h4 h5 hL hL0
  go_enter Try.func54, Try.ntmps54
  go_wp2
  go_ret
  have hfr : Fr (fun i => ¬ i = S ∧ i < W.heap.size) W (W.setCell ⟨S, 0, none⟩ (.slice A L c)) := Fr.setCell _ _ (fun h => h.1 rfl)
  have hLx : (optL (some x)).length = L := HL.out
  refine ⟨rfl, ⟨⟨A, c, ?_, ?_, ?_, ?_, ?_⟩, ?_⟩, hfr, fun i h => .inl h⟩
  · rw [hLx]; exact World.cell?_setCell_same' _ _ _ (by rw [H1.out]; rfl)
  · rw [hLx, ← HL.out]; exact HCAP.out
  · exact C_fr HC.out (fun b hb => HA.out b hb) hfr
  · obtain ⟨ad, e, _⟩ := Kd.at_int HC.out 0 (by omega) (by rw [nums_length, HX.out]; omega)
    rw [e]; rfl
  · intro b hb; have := (HA.out b hb).2; rw [World.size_setCell]; exact this
  · rw [World.frozen?_setCell]; exact HF.out
theorem runL_first : ∀ (L : List (List Nat)), (runL (fun (_ : Option (List Nat)) x => some x) (fun _ _ => false) L none).1 = L.head?
  | [] => rfl
  | x :: L => rfl
set_option maxHeartbeats 4000000 in
set_option maxRecDepth 100000 in
theorem first_calls {n : Nat} (hn : 1 ≤ n) (hn2 : n ≤ 40) {cur : List Nat} {t s : Nat} {A : Option Addr} {c : Nat} {W : World} {o : Option (List Nat)} (r : Nat) (hc : cur.length + r = n) (hcur : ∀ y ∈ cur, y < n) (ht : t < 2 ^ n) (hs : s < 2 ^ n) (hcap : (nums cur).length ≤ c) (hC : Kd.C (Kd.int .i64) W A (nums cur).length (nums cur)) (hA : ∀ b, A = some b → b.block < W.heap.size) (ho : (srch n r cur t s).head? = o) (hol : (optL o).length ≤ 1000) :
    Calls Try.prog 33 #[.agg #[.int .i64 (n : Int), .slice A (nums cur).length c, .int .i64 (t : Int), .int .i64 (s : Int)]] W fun e W' => ∃ v, e = .returned (.tuple #[v, .int .i64 (if o = none then 4 else 0)]) ∧ Kd.R (Kd.int .i64) 3 W' W.heap.size (fun _ => True) v (optL o) ∧ Below W.heap.size W W' := by
  have hmf : ∀ (fn : Fn) (first cap : Array Value) (w : World), (Instr.makeFunc fn first cap).run Try.prog w = .ok (.func fn first cap) w := fun _ _ _ _ => rfl
  obtain ⟨L, hL⟩ : ∃ L, (nums cur).length = L := ⟨_, rfl⟩
  have HL := Aside0.mk hL
  obtain ⟨W2, hW2⟩ : ∃ W2, (W.alloc (.cells #[.int .i64 (n : Int), .slice A L c, .int .i64 (t : Int), .int .i64 (s : Int)] 59)).alloc (.cells #[.slice none 0 0] 27) = W2 := ⟨_, rfl⟩
  have hb2 : Below W.heap.size W W2 := by rw [← hW2]; exact below_alloc (below_alloc (Below.refl _ _) _) _
  have hz2 : W2.heap.size = W.heap.size + 2 := by rw [← hW2]; simp [World.size_alloc]
  have hnew := new_cell (W.alloc (.cells #[.int .i64 (n : Int), .slice A L c, .int .i64 (t : Int), .int .i64 (s : Int)] 59)) (.slice none 0 0) 27
  rw [hW2, World.size_alloc] at hnew
  have hJ : FstJ (W.heap.size + 1) none W2 := ⟨⟨none, 0, hnew.1, Nat.le_refl _, (Kd.R_reads' (Kd.R_nil (Kd.int .i64) 3 W2 0 (fun _ => True))).2.2, rfl, fun b hb => by cases hb⟩, hnew.2⟩
  have hrun := all_calls (P := fun _ i => i = W.heap.size + 1) (enters_of Try.func54 (by kernel_rfl) rfl) (fst_inter (W.heap.size + 1)) (first1_more n (W.heap.size + 1) hn) hn hn2 r hc hcur ht hs hJ hcap (Kd.C_below hC hb2) (fun b hb => ⟨fun h => by have := hA b hb; omega, Nat.lt_of_lt_of_le (hA b hb) hb2.size⟩)
  unfold AllT at hrun
  rw [hL] at hrun ⊢
  have HRUN := Aside0.mk hrun
  have HW2 := Aside0.mk hW2
  have HB2 := Aside0.mk hb2
  have HZ2 := Aside0.mk hz2
  have HO := Aside0.mk ho
  have HOL := Aside0.mk hol
  have q22 : ∀ (w : World) (a : Option Addr) (n c n' c' : Nat), (binOp .eql 27 (.slice a n c) (.slice none n' c')).run Try.prog w = .ok (.bool a.isNone) w := fun w a n c n' c' => Lib.run_eql_slice_nil w _ _ a n c n' c' Try.underlying27
  clear hrun hW2 hb2 hz2 hnew hJ ho hL hC hA hcap hs ht hcur hc hol
  go_enter Try.func33, Try.ntmps33
  go_wp2_with fail
  rw [HW2.out]
  refine HRUN.out.mono ?_
  rintro e w3 ⟨rfl, hj3, hf3, -⟩
  rw [runL_first, HO.out] at hj3
  have hb3 : Below W.heap.size W w3 := HB2.out.trans (hf3.below (B := W.heap.size) (fun k hk => ⟨by omega, by have := HZ2.out; omega⟩))
  obtain ⟨⟨Ad, cd, h1, h2, h3, h4, h5⟩, hfz⟩ := hj3
  have HB3 := Aside0.mk hb3
  clear hf3 hb3
  cases o with
  | none =>
    have hAd : Ad = none := by
      cases Ad with
      | none => rfl
      | some _ => cases h4
    subst hAd
    have e0 : (optL none).length = 0 := rfl
    rw [e0] at h1
    clear h2 h3 h4 h5 hfz e0
    go_wp2
    go_ret2
    exact ⟨_, rfl, Kd.R_nil _ _ _ _ _, HB3.out⟩
  | some l =>
    obtain ⟨ad, hAd⟩ : ∃ ad, Ad = some ad := by
      cases Ad with
      | none => cases h4
      | some ad => exact ⟨ad, rfl⟩
    subst hAd
    have HCL := Aside0.mk (slices_Clone_int_int.calls (some ad) cd (optL (some l)) (optL (some l)) w3 h3 h2 (by unfold slices_Clone_int_int.f; rw [if_pos (by have := HOL.out; omega)]))
    generalize hll : (optL (some l)).length = ll at h1 HCL
    clear h2 h3 h4 h5 hfz hll
    go_wp2_with fail
    refine HCL.out.mono ?_
    rintro e w4 ⟨v, rfl, hr4, hb4⟩
    have HR4 := Aside0.mk hr4
    have HB4 := Aside0.mk hb4
    clear hr4 hb4
    go_wp2
    go_ret2
    exact ⟨_, rfl, Kd.R_lower HR4.out HB3.out.size, HB3.out.trans (HB4.out.mono HB3.out.size)⟩

end Go.Proofs.Ytknchioabngbiaa.P
namespace Go.Proofs.Ytknchioabngbiaa.P
open Go.RowKit Go.Proofs.YtknchioabngbiaaW.PrintWords Go.Proofs.YtknchioabngbiaaW.PrintLast Go.Proofs.YtknchioabngbiaaW.PrintMore
attribute [local go_sem] max2_int min2_int max_two min_two max_three min_three max_four min_four   -- for this text's walks alone
set_option linter.unusedVariables false
set_option linter.unusedSimpArgs false

/-! ### rows_isLength: function 28 -/
def rows_isLength.f (a0 : Int) : Option (Bool) := if a0 ≥ 2 then (some (decide (a0 ≤ 10))) else (some false)
set_option maxHeartbeats 8000000 in
set_option maxRecDepth 100000 in
theorem rows_isLength.calls (a0 : Int) (r : Bool) (w : World) (h : rows_isLength.f a0 = some r) :
    Calls Try.prog 28 #[.int .i64 a0] w fun e w' => e = .returned (.bool r) ∧ Drawn0 w w' := by
  have H : (if a0 ≥ 2 then (some (decide (a0 ≤ 10))) else (some false)) = some r := h
  clear h
  by_cases c2 : a0 ≥ 2
  · rw [if_pos c2] at H
    have c2b0 : decide (2 ≤ a0) = true := decide_eq_true c2
    clear c2
    obtain rfl := Option.some.inj H
    go_enter Try.func28, Try.ntmps28
    go_wp2
    go_ret
    exact ⟨by first | rfl | (simp; done) | (simp [*]; done), by repeat (first | exact Drawn0.refl _ | apply Drawn0.step)⟩
  · rw [if_neg c2] at H
    have c2b0 : decide (2 ≤ a0) = false := decide_eq_false c2
    clear c2
    obtain rfl := Option.some.inj H
    go_enter Try.func28, Try.ntmps28
    go_wp2
    go_ret
    exact ⟨by first | rfl | (simp; done) | (simp [*]; done), by repeat (first | exact Drawn0.refl _ | apply Drawn0.step)⟩

end Go.Proofs.Ytknchioabngbiaa.P
namespace Go.Proofs.Ytknchioabngbiaa.P
open Go.RowKit Go.Proofs.YtknchioabngbiaaW.PrintWords Go.Proofs.YtknchioabngbiaaW.PrintLast Go.Proofs.YtknchioabngbiaaW.PrintMore
attribute [local go_sem] max2_int min2_int max_two min_two max_three min_three max_four min_four   -- for this text's walks alone
set_option linter.unusedVariables false
set_option linter.unusedSimpArgs false

/-! parts that rows.Fill, Count, First and List share -/
theorem isLength_f (a : Int) : rows_isLength.f a = some (decide (2 ≤ a ∧ a ≤ 10)) := by
  unfold rows_isLength.f
  by_cases h1 : 2 ≤ a
  · by_cases h2 : a ≤ 10
    · simp [h1, h2]
    · simp [h1, h2]
  · simp [h1]
theorem put_box (W : World) (T : Nat) (y0 y1 y2 y3 : Value) {x0 x1 x2 x3 : Value} {t : TypeId} (h : W.heap[T]? = some (.cells #[x0, x1, x2, x3] t)) :
    ((((W.setCell ⟨T, 0, none⟩ y0).setCell ⟨T, 1, none⟩ y1).setCell ⟨T, 2, none⟩ y2).setCell ⟨T, 3, none⟩ y3).heap[T]? = some (.cells #[y0, y1, y2, y3] t) := by
  have hlt : T < W.heap.size := (Array.getElem?_eq_some_iff.1 h).1
  have one : ∀ (V : World) (cs : Array Value) (i : Nat) (y : Value), V.heap[T]? = some (.cells cs t) → (V.setCell ⟨T, i, none⟩ y).heap[T]? = some (.cells (cs.setIfInBounds i y) t) := by
    intro V cs i y hV
    unfold World.setCell
    simp [Array.getElem?_modify, hV]
  have h1 := one W _ 0 y0 h
  have h2 := one _ _ 1 y1 h1
  have h3 := one _ _ 2 y2 h2
  have h4 := one _ _ 3 y3 h3
  rw [h4]
  rfl
theorem srch_len {n : Nat} : ∀ (r : Nat) (cur : List Nat) (t s : Nat), ∀ l ∈ srch n r cur t s, l.length = cur.length + r
  | 0, cur, _, _, l, h => by rw [srch, List.mem_singleton] at h; subst h; rfl
  | r + 1, cur, t, s, l, h => by
    rw [srch, List.mem_flatMap] at h
    obtain ⟨x, _, h⟩ := h
    split at h
    · cases h
    · have := srch_len r _ _ _ l h
      rw [this, List.length_append, List.length_singleton]; omega
theorem optL_len {n r : Nat} {cur : List Nat} {t s : Nat} (h : cur.length + r = n) : (optL (srch n r cur t s).head?).length ≤ n := by
  cases ho : (srch n r cur t s).head? with
  | none => exact Nat.zero_le _
  | some l =>
    have := srch_len r cur t s l (List.mem_of_head? ho)
    show (nums l).length ≤ n
    rw [nums_length]; omega

end Go.Proofs.Ytknchioabngbiaa.P
namespace Go.Proofs.Ytknchioabngbiaa.P
open Go.RowKit Go.Proofs.YtknchioabngbiaaW.PrintWords Go.Proofs.YtknchioabngbiaaW.PrintLast Go.Proofs.YtknchioabngbiaaW.PrintMore
attribute [local go_sem] max2_int min2_int max_two min_two max_three min_three max_four min_four   -- for this text's walks alone
set_option linter.unusedVariables false
set_option linter.unusedSimpArgs false

/-! rows.from and rows.Count -/
def fromAll (n : Nat) : List (List Nat) := srch n (n - 1) [0] 1 0
theorem results_one {fn : Func} {p : Tmp} (h : fn.results = #[.cell p 59]) (tmps : Array Value) (w : World) (b : Nat) (x0 x1 x2 x3 : Value)
    (hp : tmps.getD p undef = .pointer (some ⟨b, 0, none⟩))
    (c0 : w.cell? ⟨b, 0, none⟩ = some x0) (c1 : w.cell? ⟨b, 1, none⟩ = some x1) (c2 : w.cell? ⟨b, 2, none⟩ = some x2) (c3 : w.cell? ⟨b, 3, none⟩ = some x3) :
    (results fn tmps).run Try.prog w = .ok (.agg #[x0, x1, x2, x3]) w := by
  have hp' : tmps[p]?.getD undef = .pointer (some ⟨b, 0, none⟩) := by simpa using hp
  unfold results
  simp only [h]
  go_simp
set_option maxHeartbeats 4000000 in
set_option maxRecDepth 100000 in
theorem from_calls (n : Nat) (hn : 1 ≤ n) (hn2 : n ≤ 40) (W : World) :
    Calls Try.prog 29 #[.int .i64 (n : Int)] W fun e W' => ∃ A c, e = .returned (.agg #[.int .i64 (n : Int), .slice A (nums [0]).length c, .int .i64 ((1 : Nat) : Int), .int .i64 ((0 : Nat) : Int)]) ∧ Kd.R (Kd.int .i64) 3 W' W.heap.size (fun _ => True) (.slice A (nums [0]).length c) (nums [0]) ∧ Below W.heap.size W W' := by
  obtain ⟨W1, hW1⟩ : ∃ W1, W.alloc (.cells #[.int .i64 0, .slice none 0 0, .int .i64 0, .int .i64 0] 59) = W1 := ⟨_, rfl⟩
  have hb1 : Below W.heap.size W W1 := by rw [← hW1]; exact below_alloc (Below.refl _ _) _
  have hblk := World.alloc_heap_new W (.cells #[.int .i64 0, .slice none 0 0, .int .i64 0, .int .i64 0] 59)
  rw [hW1] at hblk
  have hadd : Calls Try.prog 52 #[.agg #[.int .i64 (n : Int), .slice none 0 0, .int .i64 0, .int .i64 0], .int .i64 0] W1 (AddPost n [] 0 W1 (some (1, 0))) :=
    add_calls (n := n) (cur := []) (t := 0) (s := 0) (x := 0) (A := none) (c := 0) (W := W1) hn hn2 (by omega) (Nat.two_pow_pos n) (Nat.two_pow_pos n) (by simp) (by simp) (Kd.R_reads' (Kd.R_nil (Kd.int .i64) 3 W1 0 (fun _ => True))).2.2 (Nat.le_refl _)
  have HADD := Aside0.mk hadd
  have HW1 := Aside0.mk hW1
  have HB1 := Aside0.mk hb1
  have HBLK := Aside0.mk hblk
  clear hadd hW1 hb1 hblk
  go_enter Try.func29, Try.ntmps29
  go_wp2_with fail
  rw [HW1.out]
  refine HADD.out.mono ?_
  rintro e w2 ⟨hb2, A, c, rfl, hR⟩
  have hS : W.heap.size < W1.heap.size := (Array.getElem?_eq_some_iff.1 HBLK.out).1
  have hbox := (Below.heap_alloc w2 (.cells #[.int .i64 (n : Int), .slice A (nums [0]).length c, .int .i64 1, .int .i64 0] 59) W.heap.size (Nat.lt_of_lt_of_le hS hb2.size)).trans ((hb2.block W.heap.size hS).trans HBLK.out)
  obtain ⟨m0, m1, m2, m3⟩ := four_cells hbox
  have z0 := frozen_cells (i := 0) hbox
  have z1 := frozen_cells (i := 1) hbox
  have z2 := frozen_cells (i := 2) hbox
  have z3 := frozen_cells (i := 3) hbox
  have HR := Aside0.mk hR
  have HB2 := Aside0.mk hb2
  have HS := Aside0.mk hS
  have HBOX := Aside0.mk hbox
  clear hb2 hR hS hbox
  have HPUT := Aside0.mk (four_cells (put_box _ W.heap.size (.int .i64 (n : Int)) (.slice A (nums [0]).length c) (.int .i64 1) (.int .i64 0) HBOX.out))
  go_wp2
  refine bodyPost_ret (results_one rfl _ _ W.heap.size _ _ _ _ rfl HPUT.out.1 HPUT.out.2.1 HPUT.out.2.2.1 HPUT.out.2.2.2) rfl ?_
  refine ⟨A, c, rfl, ?_, ?_⟩
  · have hblk : ∀ i, W.heap.size + 1 ≤ i → i < w2.heap.size → (((((w2.alloc (.cells #[.int .i64 (n : Int), .slice A (nums [0]).length c, .int .i64 1, .int .i64 0] 59)).setCell ⟨W.heap.size, 0, none⟩ (.int .i64 (n : Int))).setCell ⟨W.heap.size, 1, none⟩ (.slice A (nums [0]).length c)).setCell ⟨W.heap.size, 2, none⟩ (.int .i64 1)).setCell ⟨W.heap.size, 3, none⟩ (.int .i64 0)).heap[i]? = w2.heap[i]? := by
      intro i hi hlt
      rw [Below.heap_setCell _ _ _ _ (by simp only [ne_eq]; omega), Below.heap_setCell _ _ _ _ (by simp only [ne_eq]; omega), Below.heap_setCell _ _ _ _ (by simp only [ne_eq]; omega), Below.heap_setCell _ _ _ _ (by simp only [ne_eq]; omega)]
      exact Below.heap_alloc _ _ _ hlt
    exact Kd.R_lower (Kd.R_mono (Kd.R_move (Kd.R_bound HR.out) (fun i hi => hblk i (by have := hi.2.1; have := HS.out; omega) hi.2.2.1)) (fun _ _ => trivial)) (Nat.le_of_lt HS.out)
  · exact (HB1.out.trans ((below_alloc HB2.out _).mono (Nat.le_of_lt HS.out))).setCell (p := ⟨W.heap.size, 0, none⟩) (Nat.le_refl _) _ |>.setCell (p := ⟨W.heap.size, 1, none⟩) (Nat.le_refl _) _ |>.setCell (p := ⟨W.heap.size, 2, none⟩) (Nat.le_refl _) _ |>.setCell (p := ⟨W.heap.size, 3, none⟩) (Nat.le_refl _) _
/-! the counting function -/
structure CntJ (S : Nat) (q : Nat) (W : World) : Prop where
  c : W.cell? ⟨S, 0, none⟩ = some (.int .i64 (wrap64 (q : Int)))
  f : W.frozen? ⟨S, 0, none⟩ = false
theorem cnt_inter (S : Nat) : SInter (fun _ i => i = S) (CntJ S) := by
  refine ⟨fun q A B h hb => ⟨?_, fun i => Iff.rfl⟩, fun q A i h hp => ?_⟩
  · obtain ⟨h1, hf⟩ := h
    have hl : S < A.heap.size := World.block_lt_of_cell? A _ h1
    exact ⟨(hb.cell (p := ⟨S, 0, none⟩) hl).trans h1, (hb.frozen (p := ⟨S, 0, none⟩) hl).trans hf⟩
  · subst hp
    exact World.block_lt_of_cell? A _ h.c
theorem wrap_succ (q : Nat) : wrap64 (wrap64 (q : Int) + 1) = wrap64 ((q + 1 : Nat) : Int) := by unfold wrap64; omega
set_option maxHeartbeats 2000000 in
set_option maxRecDepth 100000 in
theorem count1_more (n S : Nat) : MoreS n 31 #[.pointer (some ⟨S, 0, none⟩)] (fun _ i => i = S) (CntJ S) (fun q _ => q + 1) (fun _ _ => true) := by
  intro q x A c W hJ hx hxr hc hC hA
  obtain ⟨h1, hf⟩ := hJ
  have H1 := Aside0.mk h1
  have HF := Aside0.mk hf
  have HW := Aside0.mk (wrap_succ q)
  show Calls Try.prog 31 #[.slice A (nums x).length c, .pointer (some ⟨S, 0, none⟩)] W _
  obtain ⟨L, hL⟩ : ∃ L, (nums x).length = L := ⟨_, rfl⟩
  rw [hL]
  generalize hz : wrap64 (q : Int) = z at h1 HW H1
  obtain ⟨z1, hz1⟩ : ∃ z1, wrap64 (z + 1) = z1 := ⟨_, rfl⟩
  rw [hz1] at HW
  have hz2 : IntKind.i64.wrap (z + 1) = z1 := by rw [← hz1, IntKind.wrap_i64]; unfold wrap64; omega
  clear hC hA hc hx hL hz hxr
  go_enter Try.func31, Try.ntmps31
  go_wp2
  go_ret
  have hfr : Fr (fun i => ¬ i = S ∧ i < W.heap.size) W (W.setCell ⟨S, 0, none⟩ (.int .i64 z1)) := Fr.setCell _ _ (fun h => h.1 rfl)
  refine ⟨rfl, ⟨?_, ?_⟩, hfr, fun i h => .inl h⟩
  · rw [← HW.out]; exact World.cell?_setCell_same' _ _ _ (by rw [H1.out]; rfl)
  · rw [World.frozen?_setCell]; exact HF.out
theorem runL_count : ∀ (L : List (List Nat)) (q : Nat), runL (fun (q : Nat) _ => q + 1) (fun _ _ => true) L q = (q + L.length, true)
  | [], q => rfl
  | x :: L, q => by rw [runL, if_pos rfl, runL_count L (q + 1)]; simp; omega
def rows_Count.f (a0 : Int) : Option (Int × Int) := if 2 ≤ a0 ∧ a0 ≤ 10 then some (wrap64 ((fromAll a0.toNat).length : Int), 0) else some (0, 2)
set_option maxHeartbeats 4000000 in
set_option maxRecDepth 100000 in
theorem rows_Count.calls (a0 : Int) (r1 r2 : Int) (w : World) (h : rows_Count.f a0 = some (r1, r2)) :
    Calls Try.prog 7 #[.int .i64 a0] w fun e w' => e = .returned (.tuple #[.int .i64 r1, .int .i64 r2]) ∧ Below w.heap.size w w' := by
  unfold rows_Count.f at h
  have hmf : ∀ (fn : Fn) (first cap : Array Value) (w : World), (Instr.makeFunc fn first cap).run Try.prog w = .ok (.func fn first cap) w := fun _ _ _ _ => rfl
  by_cases hn : 2 ≤ a0 ∧ a0 ≤ 10
  · rw [if_pos hn] at h
    injection h with h
    injection h with h1 h2
    subst h1 h2
    obtain ⟨n, rfl⟩ : ∃ n : Nat, a0 = (n : Int) := ⟨a0.toNat, by omega⟩
    rw [Int.toNat_natCast]
    have hlenF : rows_isLength.f (n : Int) = some true := by rw [isLength_f, decide_eq_true hn]
    have HLEN := Aside0.mk hlenF
    have HN := Aside0.mk (show 2 ≤ n ∧ n ≤ 10 by omega)
    clear hlenF hn
    go_enter Try.func7, Try.ntmps7
    go_wp2_with fail
    refine (rows_isLength.calls _ _ _ HLEN.out).mono ?_
    rintro e w2 ⟨rfl, hd⟩
    obtain ⟨q, rfl⟩ := hd
    have hb0 : Below w.heap.size w (w.drewN q) := pw_below_drewN (Below.refl _ _) q
    generalize w.drewN q = w0 at hb0 ⊢
    have hnew := new_cell w0 (.int .i64 0) 3
    have hq0 := hnew.1
    have hf0 := hnew.2
    have HB0 := Aside0.mk hb0
    have hw0 := hb0.size
    clear hb0 hnew
    go_wp2_with fail
    have hsz : w0.heap.size < (w0.alloc (.cells #[.int .i64 0] 3)).heap.size := by simp [World.size_alloc]
    have hb1 : Below w0.heap.size w0 (w0.alloc (.cells #[.int .i64 0] 3)) := below_alloc (Below.refl _ _) _
    generalize w0.alloc (.cells #[.int .i64 0] 3) = w1 at hq0 hf0 hsz hb1 ⊢
    have HB1 := Aside0.mk (HB0.out.trans (hb1.mono HB0.out.size))
    clear hb1 HB0
    refine (from_calls n (by have := HN.out; omega) (by have := HN.out; omega) w1).mono ?_
    rintro e w2 ⟨A, c, rfl, hR, hb2⟩
    have hRC := Kd.R_reads' hR
    have hw00 : wrap64 ((0 : Nat) : Int) = 0 := wrap_id (by omega) (by omega)
    have hJ : CntJ w0.heap.size 0 w2 := ⟨by rw [hw00]; exact (hb2.cell (p := ⟨w0.heap.size, 0, none⟩) hsz).trans hq0, (hb2.frozen (p := ⟨w0.heap.size, 0, none⟩) hsz).trans hf0⟩
    have hrun := all_calls (P := fun _ i => i = w0.heap.size) (enters_of Try.func31 (by kernel_rfl) rfl) (cnt_inter w0.heap.size) (count1_more n w0.heap.size) (by have := HN.out; omega) (by have := HN.out; omega) (n - 1) (cur := [0]) (t := 1) (s := 0) (by have := HN.out; show 1 + (n - 1) = n; omega) (fun y hy => by rw [List.mem_singleton] at hy; have := HN.out; omega) (Nat.one_lt_two_pow (by have := HN.out; omega)) (Nat.two_pow_pos n) hJ hRC.2.1 hRC.2.2 (fun b hb => by
      have h1 := Kd.R_base hR b.block (by rw [hb]; rfl)
      have h2 := Kd.R_lt hR b.block (by rw [hb]; rfl)
      exact ⟨fun h => by omega, h2⟩)
    unfold AllT at hrun
    rw [runL_count] at hrun
    have HRUN := Aside0.mk hrun
    have HB2 := Aside0.mk (HB1.out.trans (hb2.mono HB1.out.size))
    have HSZ := Aside0.mk (Nat.lt_of_lt_of_le hsz hb2.size)
    have HW0 := Aside0.mk (show w.heap.size ≤ w0.heap.size from by assumption)
    clear hR hb2 hRC hJ hrun hq0 hf0 hsz HB1
    go_wp2_with fail
    refine HRUN.out.mono ?_
    rintro e w3 ⟨rfl, hj3, hf3, -⟩
    have h3 := hj3.c
    rw [Nat.zero_add] at h3
    have HB3 := Aside0.mk (HB2.out.trans (hf3.below (B := w.heap.size) (fun k hk => ⟨by have := HW0.out; omega, by have := HW0.out; have := HSZ.out; omega⟩)))
    clear hj3 hf3
    go_wp2
    go_ret2
    exact ⟨rfl, HB3.out⟩
  · rw [if_neg hn] at h
    injection h with h
    injection h with h1 h2
    subst h1 h2
    have hlenF : rows_isLength.f a0 = some false := by rw [isLength_f, decide_eq_false hn]
    have HLEN := Aside0.mk hlenF
    clear hlenF hn
    go_enter Try.func7, Try.ntmps7
    go_wp2_with fail
    refine (rows_isLength.calls _ _ _ HLEN.out).mono ?_
    rintro e w2 ⟨rfl, hd⟩
    obtain ⟨q, rfl⟩ := hd
    go_wp2
    go_ret2
    exact ⟨rfl, pw_below_drewN (Below.refl _ _) q⟩

end Go.Proofs.Ytknchioabngbiaa.P
namespace Go.Proofs.Ytknchioabngbiaa.P
open Go.RowKit Go.Proofs.YtknchioabngbiaaW.PrintWords Go.Proofs.YtknchioabngbiaaW.PrintLast Go.Proofs.YtknchioabngbiaaW.PrintMore
attribute [local go_sem] max2_int min2_int max_two min_two max_three min_three max_four min_four   -- for this text's walks alone
set_option linter.unusedVariables false
set_option linter.unusedSimpArgs false

/-! rows.First -/
def rows_First.f (a0 : Int) : Option (List Int × Int) := if 2 ≤ a0 ∧ a0 ≤ 10 then some (optL (fromAll a0.toNat).head?, if (fromAll a0.toNat).head? = none then 4 else 0) else some ([], 2)
set_option maxHeartbeats 4000000 in
set_option maxRecDepth 100000 in
theorem rows_First.calls (a0 : Int) (r1 : List Int) (r2 : Int) (w : World) (h : rows_First.f a0 = some (r1, r2)) :
    Calls Try.prog 9 #[.int .i64 a0] w fun e w' => ∃ v0_ : Value, e = .returned (.tuple #[v0_, .int .i64 r2]) ∧ Kd.R (Kd.int .i64) 3 w' w.heap.size (fun _ => True) v0_ r1 ∧ Below w.heap.size w w' := by
  unfold rows_First.f at h
  by_cases hn : 2 ≤ a0 ∧ a0 ≤ 10
  · rw [if_pos hn] at h
    injection h with h
    injection h with h1 h2
    obtain ⟨n, rfl⟩ : ∃ n : Nat, a0 = (n : Int) := ⟨a0.toNat, by omega⟩
    rw [Int.toNat_natCast] at h1 h2
    have hlenF : rows_isLength.f (n : Int) = some true := by rw [isLength_f, decide_eq_true hn]
    have HLEN := Aside0.mk hlenF
    have HN := Aside0.mk (show 2 ≤ n ∧ n ≤ 10 by omega)
    have H1 := Aside0.mk h1
    have H2 := Aside0.mk h2
    clear hlenF hn h1 h2
    go_enter Try.func9, Try.ntmps9
    go_wp2_with fail
    refine (rows_isLength.calls _ _ _ HLEN.out).mono ?_
    rintro e w2 ⟨rfl, hd⟩
    obtain ⟨q, rfl⟩ := hd
    have hb0 : Below w.heap.size w (w.drewN q) := pw_below_drewN (Below.refl _ _) q
    generalize w.drewN q = w0 at hb0 ⊢
    have HB0 := Aside0.mk hb0
    clear hb0
    go_wp2_with fail
    refine (from_calls n (by have := HN.out; omega) (by have := HN.out; omega) w0).mono ?_
    rintro e w2 ⟨A, c, rfl, hR, hb2⟩
    have hRC := Kd.R_reads' hR
    have hrun := first_calls (n := n) (by have := HN.out; omega) (by have := HN.out; omega) (cur := [0]) (t := 1) (s := 0) (A := A) (c := c) (W := w2) (o := (fromAll n).head?) (n - 1) (by have := HN.out; show 1 + (n - 1) = n; omega) (fun y hy => by rw [List.mem_singleton] at hy; have := HN.out; omega) (Nat.one_lt_two_pow (by have := HN.out; omega)) (Nat.two_pow_pos n) hRC.2.1 hRC.2.2 (fun b hb => Kd.R_lt hR b.block (by rw [hb]; rfl)) rfl (by have := optL_len (n := n) (r := n - 1) (cur := [0]) (t := 1) (s := 0) (by have := HN.out; show 1 + (n - 1) = n; omega); have := HN.out; unfold fromAll; omega)
    generalize hz : (if (fromAll n).head? = none then (4 : Int) else 0) = z at hrun
    have HZZ := Aside0.mk hz
    have HRUN := Aside0.mk hrun
    have HB2 := Aside0.mk (HB0.out.trans (hb2.mono HB0.out.size))
    clear hR hb2 hRC hrun HB0 hz
    go_wp2_with fail
    refine HRUN.out.mono ?_
    rintro e w3 ⟨v, rfl, hr3, hb3⟩
    have HR3 := Aside0.mk hr3
    have HB3 := Aside0.mk hb3
    clear hr3 hb3
    go_wp2
    go_ret2
    rw [← H1.out, ← H2.out, HZZ.out]
    exact ⟨_, rfl, Kd.R_lower HR3.out HB2.out.size, HB2.out.trans (HB3.out.mono HB2.out.size)⟩
  · rw [if_neg hn] at h
    injection h with h
    injection h with h1 h2
    subst h1 h2
    have hlenF : rows_isLength.f a0 = some false := by rw [isLength_f, decide_eq_false hn]
    have HLEN := Aside0.mk hlenF
    clear hlenF hn
    go_enter Try.func9, Try.ntmps9
    go_wp2_with fail
    refine (rows_isLength.calls _ _ _ HLEN.out).mono ?_
    rintro e w2 ⟨rfl, hd⟩
    obtain ⟨q, rfl⟩ := hd
    go_wp2
    go_ret2
    exact ⟨_, rfl, Kd.R_nil _ _ _ _ _, pw_below_drewN (Below.refl _ _) q⟩

end Go.Proofs.Ytknchioabngbiaa.P
namespace Go.Proofs.Ytknchioabngbiaa.P
open Go.RowKit Go.Proofs.YtknchioabngbiaaW.PrintWords Go.Proofs.YtknchioabngbiaaW.PrintLast Go.Proofs.YtknchioabngbiaaW.PrintMore
attribute [local go_sem] max2_int min2_int max_two min_two max_three min_three max_four min_four   -- for this text's walks alone
set_option linter.unusedVariables false
set_option linter.unusedSimpArgs false

/-! rows.List: all rows with every step -/
def rowsOf (q : List (List Nat)) : List (List Int) := q.map nums
structure LstJ (S base : Nat) (q : List (List Nat)) (W : World) : Prop where
  c : ∃ A n c, W.cell? ⟨S, 0, none⟩ = some (.slice A n c) ∧ Kd.S (Kd.slice 3 (Kd.int .i64)) 27 W base (fun _ => True) (.slice A n c) (rowsOf q)
  f : W.frozen? ⟨S, 0, none⟩ = false
  s : S < base
  b : base ≤ W.heap.size
def LstP (S : Nat) (W : World) (i : Nat) : Prop := i = S ∨ ∃ v, W.cell? ⟨S, 0, none⟩ = some v ∧ v.ownBlock = some i
theorem lst_inter (S base : Nat) : SInter (LstP S) (LstJ S base) := by
  refine ⟨fun q A B h hb => ?_, fun q A i h hp => ?_⟩
  · obtain ⟨⟨Ad, n, c, h1, h2⟩, hf, hs, hbs⟩ := h
    have hl : S < A.heap.size := World.block_lt_of_cell? A _ h1
    have hc := hb.cell (p := ⟨S, 0, none⟩) hl
    refine ⟨⟨⟨Ad, n, c, hc.trans h1, Kd.S_below h2 hb⟩, (hb.frozen (p := ⟨S, 0, none⟩) hl).trans hf, hs, Nat.le_trans hbs hb.size⟩, fun i => ?_⟩
    unfold LstP
    rw [hc]
  · obtain ⟨⟨Ad, n, c, h1, h2⟩, hf, hs, hbs⟩ := h
    rcases hp with rfl | ⟨v, hv, hi⟩
    · exact World.block_lt_of_cell? A _ h1
    · rw [h1] at hv
      injection hv with hv
      subst hv
      exact Kd.S_lt h2 i hi
theorem infoS8 : (Try.prog.info? 27).map (fun i => (i.zero, i.size, i.bytes)) = some (some (.slice none 0 0), 1, 24) := by kernel_rfl
set_option maxHeartbeats 2000000 in
set_option maxRecDepth 100000 in
theorem list1_more (n S base : Nat) : MoreQ n 34 #[.pointer (some ⟨S, 0, none⟩)] (LstP S) (LstJ S base) (fun q x => q ++ [x]) (fun _ _ => true) (fun q x => q.length < 1000 ∧ x.length ≤ 1000) := by
  intro q x A c W hQ hJ hx hxr hc hC hA
  obtain ⟨⟨A0, n0, c0, h1, h2⟩, hf, hs, hbs⟩ := hJ
  have HCL := Aside0.mk (fun W2 (hb : Below W.heap.size W W2) => slices_Clone_int_int.calls A c (nums x) (nums x) W2 (Kd.C_below hC hb) hc (by unfold slices_Clone_int_int.f; rw [if_pos (by rw [nums_length]; omega)]))
  have H1 := Aside0.mk h1
  have H2 := Aside0.mk h2
  have HF := Aside0.mk hf
  have HS := Aside0.mk hs
  have HBS := Aside0.mk hbs
  have HQ := Aside0.mk hQ
  show Calls Try.prog 34 #[.slice A (nums x).length c, .pointer (some ⟨S, 0, none⟩)] W _
  obtain ⟨L, hL⟩ : ∃ L, (nums x).length = L := ⟨_, rfl⟩
  rw [hL] at HCL ⊢
  clear hC hA hc hL hf h2 hs hbs hQ hx hxr
  go_enter Try.func34, Try.ntmps34
  go_wp2
  refine start_ (n := 6) (S := fun w' => w'.cell? ⟨S, 0, none⟩ = some (.slice A0 n0 c0)) (ds := [5]) #[false, false, false, false, false, false] (by kernel_rfl) rfl rfl H1.out (fun _ => ?_)
  refine pure_ (i := 1) (N := some 5) (v := ?_) (a' := ?_) #[false, true, false, false, false, false] rfl rfl (by kernel_rfl) (fun _ _ _ h => h) (Or.inl ⟨by rfl, ?_⟩) ?_ ?_
  rotate_left
  · intro w'
    go_simp
    with_reducible rfl
  rotate_left
  · simp only [Act.put, List.setIfInBounds_toArray, List.set_cons_zero, List.set_cons_succ, i64_w, i32_w]
    rfl
  refine take_ (i := 0) (N := some 4) (v := ?_) (a' := ?_) #[true, true, false, false, false, false] rfl rfl (by kernel_rfl) (fun _ _ _ h => h) (Or.inl ⟨by rfl, ?_⟩) H1.out ?_ ?_
  rotate_left
  · intro w' hw'
    go_simp
    with_reducible rfl
  rotate_left
  · simp only [Act.put, List.setIfInBounds_toArray, List.set_cons_zero, List.set_cons_succ, i64_w, i32_w]
    rfl
  refine one_ (i := 2) (N := some 6) #[true, true, true, false, false, false] rfl rfl (by kernel_rfl) (by decide) (fun K hK => ?_)
  refine goes_ Try.func18 (by kernel_rfl) rfl #[.slice A L c] (by rfl) rfl rfl (by first | rfl | (simp [Act.eval]; done) | (simp; rfl)) ?_
  refine (HCL.out W.drew (below_drew1 (Below.refl _ _))).mono ?_
  rintro e w2 ⟨v2, rfl, hr2, hb2'⟩
  have hb2 : Below W.heap.size W w2 := (below_drew1 (Below.refl _ _)).trans hb2'
  have hr2' : Kd.R (Kd.int .i64) 3 w2 W.heap.size (fun _ => True) v2 (nums x) := hr2
  have hSl : S < W.heap.size := World.block_lt_of_cell? W _ H1.out
  have k2 := (hb2.cell (p := ⟨S, 0, none⟩) hSl).trans H1.out
  clear hr2 hb2'
  obtain ⟨A2, c2, e2⟩ := Kd.R_slice hr2'
  subst e2
  obtain ⟨L2, hL2⟩ : ∃ L2, (nums x).length = L2 := ⟨_, rfl⟩
  rw [hL2] at hr2' ⊢
  refine ⟨_, rfl, ?_⟩
  refine hK.out _ _ k2 (fun _ => ?_)
  clear hK K
  refine norm_ (a' := ?_) ?_ ?_
  rotate_left
  · show Act.put _ (some 6) _ = _
    simp only [Act.put, List.setIfInBounds_toArray, List.set_cons_zero, List.set_cons_succ, i64_w, i32_w]
    rfl
  refine one_ (i := 3) (N := some 7) #[true, true, true, true, false, false] rfl rfl (by kernel_rfl) (by decide) (fun K hK => ?_)
  refine value_ (v := .slice (some ⟨w2.heap.size, 0, none⟩) 1 1) (w1 := w2.alloc (.cells #[.slice A2 L2 c2] 27)) (by rfl) rfl ?hr7 ?_
  case hr7 => first | (go_simp; done) | (go_simp; rfl)
  have hb7 : Below W.heap.size W (w2.alloc (.cells #[.slice A2 L2 c2] 27)) := below_alloc hb2 _
  refine hK.out _ _ ((hb7.cell (p := ⟨S, 0, none⟩) hSl).trans H1.out) (fun _ => ?_)
  clear hK K
  refine norm_ (a' := ?_) ?_ ?_
  rotate_left
  · show Act.put _ (some 7) _ = _
    simp only [Act.put, List.setIfInBounds_toArray, List.set_cons_zero, List.set_cons_succ, i64_w, i32_w]
    rfl
  refine one_ (i := 4) (N := some 8) #[true, true, true, true, true, false] rfl rfl (by kernel_rfl) (by decide) (fun K hK => ?_)
  refine Kd.S_append_step (Kd.slice 3 (Kd.int .i64)) (w0 := w2) base (by rfl) (.tmp 4) (.tmp 7) 30 27 (.slice none 0 0) 24 rfl Try.underlying30 infoS8 rfl (by decide) (by omega) (.slice A0 n0 c0) (rowsOf q) (nums x) [.slice A2 L2 c2] (fun _ => True) (fun k => W.heap.size ≤ k) rfl rfl ⟨_, rfl, Kd.R_lower (Kd.R_mono (Kd.R_bound hr2') (fun k hk => hk.2.1)) HBS.out⟩ (fun k hk => ⟨trivial, fun e => by have := Kd.S_lt H2.out k e.symm; omega⟩) (fun _ _ => trivial) (Kd.S_below (Kd.S_mono (Kd.S_bound H2.out) (fun k hk => ⟨trivial, by have := hk.2.2.1; omega⟩)) hb2) (Below.refl _ _) (Nat.le_trans HBS.out hb2.size) (by rw [rowsOf, List.length_map]; have := HQ.out.1; omega) ?_
  intro v8 w8 hR8 hB8 hg8 hat8
  have hc8 : w8.cell? ⟨S, 0, none⟩ = some (.slice A0 n0 c0) := (hB8.cell (p := ⟨S, 0, none⟩) HS.out).trans k2
  have hf8 : w8.frozen? ⟨S, 0, none⟩ = false := (hB8.frozen (p := ⟨S, 0, none⟩) HS.out).trans ((hb2.frozen (p := ⟨S, 0, none⟩) hSl).trans HF.out)
  obtain ⟨A8, c8, e8⟩ := Kd.S_slice hR8
  subst e8
  refine hK.out _ _ hc8 (fun _ => ?_)
  clear hK K
  refine norm_ (a' := ?_) ?_ ?_
  rotate_left
  · show Act.put _ (some 8) _ = _
    simp only [Act.put, List.setIfInBounds_toArray, List.set_cons_zero, List.set_cons_succ, i64_w, i32_w]
    rfl
  refine last_ (i := 5) (N := none) #[true, true, true, true, true, true] rfl rfl (by kernel_rfl) (by decide) (fun K hK => ?_)
  refine skip_ (w1 := w8.setCell ⟨S, 0, none⟩ (.slice A8 (rowsOf q ++ [nums x]).length c8)) (by rfl) rfl ?hr10 ?_
  case hr10 => first | (go_simp; done) | (go_simp; rfl)
  refine hK.out _ _ ?_
  clear hK K
  refine done_ (by kernel_rfl) ?_
  have HC8 := Aside0.mk hc8
  have HF8 := Aside0.mk hf8
  have HR8 := Aside0.mk hR8
  have HB8 := Aside0.mk hB8
  have HG8 := Aside0.mk hg8
  have HAT8 := Aside0.mk hat8
  have HB2 := Aside0.mk hb2
  have HSL := Aside0.mk hSl
  clear hc8 hf8 hR8 hB8 hg8 hat8 hb2 hb7 hr2' hL2 k2 hSl
  generalize hl8 : (rowsOf q ++ [nums x]).length = l8 at HR8 HAT8 ⊢
  clear hl8
  go_wp2
  go_ret
  have hbr := Kd.S_bound HR8.out
  have hown8 : ∀ i, (Value.slice A8 l8 c8).ownBlock = some i → LstP S W i ∨ W.heap.size ≤ i := fun i hi => by
    rcases HAT8.out with h | ⟨b, h, hle⟩
    · exact .inl (.inr ⟨_, H1.out, h ▸ hi⟩)
    · rw [h] at hi; injection hi with hi; subst hi
      exact .inr (Nat.le_trans HB2.out.size hle)
  refine ⟨rfl, ⟨⟨A8, l8, c8, World.cell?_setCell_same' _ _ _ (by rw [HC8.out]; rfl), ?_⟩, by rw [World.frozen?_setCell]; exact HF8.out, HS.out, ?_⟩, ?_, ?_⟩
  · have e : rowsOf (q ++ [x]) = rowsOf q ++ [nums x] := by unfold rowsOf; rw [List.map_append]; rfl
    rw [e]
    exact Kd.S_mono (Kd.S_move hbr (fun k hk => Below.heap_setCell _ _ _ _ (by simp only [ne_eq]; have := hk.2.1; have := HS.out; omega))) (fun _ _ => trivial)
  · rw [World.size_setCell]; exact Nat.le_trans HBS.out (Nat.le_trans HB2.out.size HG8.out.size)
  · refine ((Fr.of_below HB2.out (fun k hk => hk.2)).trans (Fr.grown HG8.out (fun k hk => Nat.lt_of_lt_of_le hk.2 HB2.out.size) (fun k hk hp => hp.1 (.inr ⟨_, H1.out, hk⟩)))).trans (Fr.setCell _ _ (fun h => h.1 (.inl rfl)))
  · intro i hi
    rcases hi with rfl | ⟨v, hv, hi⟩
    · exact .inl (.inl rfl)
    · rw [World.cell?_setCell_same' _ _ _ (by rw [HC8.out]; rfl)] at hv
      injection hv with hv
      subst hv
      exact hown8 i hi
def rows_List.f (a0 : Int) : Option (List (List Int) × Int) := if 2 ≤ a0 ∧ a0 ≤ 8 then some (rowsOf (fromAll a0.toNat), 0) else some ([], 2)
theorem runL_list : ∀ (L q : List (List Nat)), runL (fun (q : List (List Nat)) x => q ++ [x]) (fun _ _ => true) L q = (q ++ L, true)
  | [], q => by rw [List.append_nil]; rfl
  | x :: L, q => by rw [runL, if_pos rfl, runL_list L (q ++ [x])]; simp
theorem runOk_list : ∀ (L q : List (List Nat)), q.length + L.length ≤ 1000 → (∀ x ∈ L, x.length ≤ 1000) → RunOk (fun (q : List (List Nat)) x => q ++ [x]) (fun _ _ => true) (fun q x => q.length < 1000 ∧ x.length ≤ 1000) L q
  | [], q, _, _ => trivial
  | x :: L, q, h, h2 => by
    rw [List.length_cons] at h
    exact ⟨⟨by omega, h2 x (by simp)⟩, fun _ => runOk_list L (q ++ [x]) (by rw [List.length_append, List.length_singleton]; omega) (fun y hy => h2 y (by simp [hy]))⟩
theorem fromAll_small : ∀ n, 2 ≤ n → n ≤ 8 → (fromAll n).length ≤ 1000 ∧ ∀ x ∈ fromAll n, x.length ≤ 1000 := by
  have h : ∀ n, n < 9 → ((fromAll n).length ≤ 1000 ∧ ∀ x ∈ fromAll n, x.length ≤ 1000) := by decide +kernel
  intro n _ hn
  exact h n (by omega)
set_option maxHeartbeats 4000000 in
set_option maxRecDepth 100000 in
theorem rows_List.calls (a0 : Int) (r1 : List (List Int)) (r2 : Int) (w : World) (h : rows_List.f a0 = some (r1, r2)) :
    Calls Try.prog 10 #[.int .i64 a0] w fun e w' => ∃ v0_ : Value, e = .returned (.tuple #[v0_, .int .i64 r2]) ∧ Kd.S (Kd.slice 3 (Kd.int .i64)) 27 w' w.heap.size (fun _ => True) v0_ r1 ∧ Below w.heap.size w w' := by
  unfold rows_List.f at h
  have hmf : ∀ (fn : Fn) (first cap : Array Value) (w : World), (Instr.makeFunc fn first cap).run Try.prog w = .ok (.func fn first cap) w := fun _ _ _ _ => rfl
  by_cases hn : 2 ≤ a0 ∧ a0 ≤ 8
  · rw [if_pos hn] at h
    injection h with h
    injection h with h1 h2
    subst h1 h2
    obtain ⟨n, rfl⟩ : ∃ n : Nat, a0 = (n : Int) := ⟨a0.toNat, by omega⟩
    rw [Int.toNat_natCast]
    have hlenF : rows_isLength.f (n : Int) = some true := by rw [isLength_f, decide_eq_true (by omega)]
    have hn8 : ¬ (n : Int) > 8 := by omega
    have HLEN := Aside0.mk hlenF
    have HN := Aside0.mk (show 2 ≤ n ∧ n ≤ 8 by omega)
    clear hlenF hn
    go_enter Try.func10, Try.ntmps10
    go_wp2_with fail
    refine (rows_isLength.calls _ _ _ HLEN.out).mono ?_
    rintro e w2 ⟨rfl, hd⟩
    obtain ⟨q, rfl⟩ := hd
    have hb0 : Below w.heap.size w (w.drewN q) := pw_below_drewN (Below.refl _ _) q
    generalize w.drewN q = w0 at hb0 ⊢
    have hnew := new_cell w0 (.slice none 0 0) 30
    have hq0 := hnew.1
    have hf0 := hnew.2
    have HB0 := Aside0.mk hb0
    have hw0 := hb0.size
    clear hb0 hnew
    go_wp2_with fail
    have hsz : w0.heap.size < (w0.alloc (.cells #[.slice none 0 0] 30)).heap.size := by simp [World.size_alloc]
    have hsz1 : (w0.alloc (.cells #[.slice none 0 0] 30)).heap.size = w0.heap.size + 1 := by simp [World.size_alloc]
    have hb1 : Below w0.heap.size w0 (w0.alloc (.cells #[.slice none 0 0] 30)) := below_alloc (Below.refl _ _) _
    generalize w0.alloc (.cells #[.slice none 0 0] 30) = w1 at hq0 hf0 hsz hsz1 hb1 ⊢
    have HB1 := Aside0.mk (HB0.out.trans (hb1.mono HB0.out.size))
    clear hb1 HB0
    refine (from_calls n (by have := HN.out; omega) (by have := HN.out; omega) w1).mono ?_
    rintro e w2 ⟨A, c, rfl, hR, hb2⟩
    have hRC := Kd.R_reads' hR
    have hJ : LstJ w0.heap.size (w0.heap.size + 1) [] w2 := ⟨⟨none, 0, 0, (hb2.cell (p := ⟨w0.heap.size, 0, none⟩) hsz).trans hq0, Kd.S_nil _ _ _ _ _⟩, (hb2.frozen (p := ⟨w0.heap.size, 0, none⟩) hsz).trans hf0, Nat.lt_succ_self _, by have := hb2.size; omega⟩
    have hsm := fromAll_small n HN.out.1 HN.out.2
    have hrun := all_callsQ (P := LstP w0.heap.size) (enters_of Try.func34 (by kernel_rfl) rfl) (lst_inter w0.heap.size (w0.heap.size + 1)) (list1_more n w0.heap.size (w0.heap.size + 1)) (by have := HN.out; omega) (by have := HN.out; omega) (n - 1) (cur := [0]) (t := 1) (s := 0) (q := []) (A := A) (c := c) (W := w2) (runOk_list (fromAll n) [] (by simpa using hsm.1) hsm.2) (by have := HN.out; show 1 + (n - 1) = n; omega) (fun y hy => by rw [List.mem_singleton] at hy; have := HN.out; omega) (Nat.one_lt_two_pow (by have := HN.out; omega)) (Nat.two_pow_pos n) hJ hRC.2.1 hRC.2.2 (fun b hb => by
      have h1 := Kd.R_base hR b.block (by rw [hb]; rfl)
      have h2 := Kd.R_lt hR b.block (by rw [hb]; rfl)
      refine ⟨?_, h2⟩
      rintro (h | ⟨v, hv, hi⟩)
      · omega
      · rw [(hb2.cell (p := ⟨w0.heap.size, 0, none⟩) hsz).trans hq0] at hv
        injection hv with hv
        subst hv
        cases hi)
    unfold AllT at hrun
    rw [runL_list, List.nil_append] at hrun
    have HRUN := Aside0.mk hrun
    have HB2 := Aside0.mk (HB1.out.trans (hb2.mono HB1.out.size))
    have HSZ := Aside0.mk (Nat.lt_of_lt_of_le hsz hb2.size)
    have HW0 := Aside0.mk (show w.heap.size ≤ w0.heap.size from by assumption)
    have HP2 := Aside0.mk (show ∀ i, LstP w0.heap.size w2 i → i = w0.heap.size from fun i hi => by
      rcases hi with h | ⟨v, hv, hi⟩
      · exact h
      · rw [(hb2.cell (p := ⟨w0.heap.size, 0, none⟩) hsz).trans hq0] at hv
        injection hv with hv
        subst hv
        cases hi)
    clear hR hb2 hRC hJ hrun hq0 hf0 hsz HB1 hsm hsz1
    go_wp2_with fail
    refine HRUN.out.mono ?_
    rintro e w3 ⟨rfl, hj3, hf3, -⟩
    obtain ⟨⟨A3, n3, c3, hc3, hR3⟩, -, -, -⟩ := hj3
    have HR3 := Aside0.mk (Kd.S_lower hR3 (Nat.le_trans HW0.out (Nat.le_succ _)))
    have HB3 := Aside0.mk (HB2.out.trans (hf3.below (B := w.heap.size) (fun k hk => ⟨fun h => by have := HP2.out k h; have := HW0.out; omega, by have := HW0.out; have := HSZ.out; omega⟩)))
    clear hR3 hf3
    go_wp2
    go_ret2
    exact ⟨_, rfl, HR3.out, HB3.out⟩
  · rw [if_neg hn] at h
    injection h with h
    injection h with h1 h2
    subst h1 h2
    by_cases hn2 : 2 ≤ a0 ∧ a0 ≤ 10
    · have hlenF : rows_isLength.f a0 = some true := by rw [isLength_f, decide_eq_true hn2]
      have hn8 : a0 > 8 := by omega
      have HLEN := Aside0.mk hlenF
      clear hlenF hn hn2
      go_enter Try.func10, Try.ntmps10
      go_wp2_with fail
      refine (rows_isLength.calls _ _ _ HLEN.out).mono ?_
      rintro e w2 ⟨rfl, hd⟩
      obtain ⟨q, rfl⟩ := hd
      go_wp2
      go_ret2
      exact ⟨_, rfl, Kd.S_nil _ _ _ _ _, pw_below_drewN (Below.refl _ _) q⟩
    · have hlenF : rows_isLength.f a0 = some false := by rw [isLength_f, decide_eq_false hn2]
      have HLEN := Aside0.mk hlenF
      clear hlenF hn hn2
      go_enter Try.func10, Try.ntmps10
      go_wp2_with fail
      refine (rows_isLength.calls _ _ _ HLEN.out).mono ?_
      rintro e w2 ⟨rfl, hd⟩
      obtain ⟨q, rfl⟩ := hd
      go_wp2
      go_ret2
      exact ⟨_, rfl, Kd.S_nil _ _ _ _ _, pw_below_drewN (Below.refl _ _) q⟩

end Go.Proofs.Ytknchioabngbiaa.P
namespace Go.Proofs.Ytknchioabngbiaa.P
open Go.RowKit Go.Proofs.YtknchioabngbiaaW.PrintWords Go.Proofs.YtknchioabngbiaaW.PrintLast Go.Proofs.YtknchioabngbiaaW.PrintMore
attribute [local go_sem] max2_int min2_int max_two min_two max_three min_three max_four min_four   -- for this text's walks alone
set_option linter.unusedVariables false
set_option linter.unusedSimpArgs false

/-! ### slices_Equal_int_int: function 11 -/
def slices_Equal_int_int.l0 : Nat → List Int → List Int → Int → Int → Option (Bool)
  | 0, _, _, _, _ => none
  | k + 1, x0, x1, x12, x13 => if x13 < x12 then (if 0 ≤ x13 then (if x13 < (x0.length : Int) then (if x13 < (x1.length : Int) then (if (rd x0 x13) = (rd x1 x13) then (slices_Equal_int_int.l0 k x0 x1 x12 (wrap64 (x13 + 1))) else (some false)) else (none)) else (none)) else (none)) else (some true)
def slices_Equal_int_int.f (k : Nat) (l0 : List Int) (l1 : List Int) : Option (Bool) := if (l0.length : Int) = (l1.length : Int) then (slices_Equal_int_int.l0 k l0 l1 (l0.length : Int) 0) else (some false)
theorem slices_Equal_int_int.mono_l : ∀ k, (∀ y0 y1 y2 y3, LeO (slices_Equal_int_int.l0 k y0 y1 y2 y3) (slices_Equal_int_int.l0 (k + 1) y0 y1 y2 y3))
  | 0 => fun _ _ _ _ r h => by simp [slices_Equal_int_int.l0] at h
  | k + 1 => by
    have ih0 := slices_Equal_int_int.mono_l k
    · intro y0 y1 y2 y3
      unfold slices_Equal_int_int.l0
      repeat' first
      | (with_reducible exact ih0 _ _ _ _)
      | (with_reducible exact LeO.refl _)
      | (with_reducible exact LeO.none _)
      | (with_reducible refine LeO.ite ?_ ?_)
      | (with_reducible refine LeO.bind ?_ (fun _ => ?_))
      | exact ih0 _ _ _ _
      | exact LeO.none _
      | refine LeO.ite ?_ ?_
      | refine LeO.bind ?_ (fun _ => ?_)
theorem slices_Equal_int_int.mono : ∀ a0 a1 k, LeO (slices_Equal_int_int.f k a0 a1) (slices_Equal_int_int.f (k + 1) a0 a1) := by
  intro a0 a1 k
  have ih0 := slices_Equal_int_int.mono_l k
  unfold slices_Equal_int_int.f
  repeat' first
      | (with_reducible exact ih0 _ _ _ _)
      | (with_reducible exact LeO.refl _)
      | (with_reducible exact LeO.none _)
      | (with_reducible refine LeO.ite ?_ ?_)
      | (with_reducible refine LeO.bind ?_ (fun _ => ?_))
      | exact ih0 _ _ _ _
      | exact LeO.none _
      | refine LeO.ite ?_ ?_
      | refine LeO.bind ?_ (fun _ => ?_)
set_option maxHeartbeats 8000000 in
set_option maxRecDepth 100000 in
theorem slices_Equal_int_int.calls (k : Nat) (A0 : Option Addr) (c0 : Nat) (l0 : List Int) (A1 : Option Addr) (c1 : Nat) (l1 : List Int) (r : Bool) (w : World) (hr0 : Kd.C (Kd.int .i64) w A0 l0.length l0) (hc0 : l0.length ≤ c0) (hr1 : Kd.C (Kd.int .i64) w A1 l1.length l1) (hc1 : l1.length ≤ c1) (h : slices_Equal_int_int.f k l0 l1 = some r) :
    Calls Try.prog 11 #[.slice A0 l0.length c0, .slice A1 l1.length c1] w fun e w' => e = .returned (.bool r) ∧ Drawn0 w w' := by
  have HR0 := Aside0.mk hr0
  have HC0 := Aside0.mk hc0
  clear hr0 hc0
  have HR1 := Aside0.mk hr1
  have HC1 := Aside0.mk hc1
  clear hr1 hc1
  have H : (if (l0.length : Int) = (l1.length : Int) then (slices_Equal_int_int.l0 k l0 l1 (l0.length : Int) 0) else (some false)) = some r := h
  clear h
  by_cases c3 : (l0.length : Int) = (l1.length : Int)
  · rw [if_pos c3] at H
    have c3b0 : ((l0.length : Int) == (l1.length : Int)) = true := beq_iff_eq.mpr c3
    have c3b1 : ((l0.length : Int) != (l1.length : Int)) = false := bne_eq_false_iff_eq.mpr c3
    have c3b2 : (l0.length == l1.length) = true := by first | simpa using c3 | (simp at c3 ⊢; omega)
    clear c3
    have H' := Aside0.mk H
    clear H
    go_enter Try.func11, Try.ntmps11
    go_wp2
    repeat (go_quiet (fail); try go_wp2)
    go_loopg [13] k (fun kq v13 w' => ∃ (x13_1 : Int), v13 = .int .i64 x13_1 ∧ Aside0 (slices_Equal_int_int.l0 kq l0 l1 (l0.length : Int) x13_1 = some r) ∧ Aside0 (kq ≤ k) ∧ Drawn0 w w')
    case atStart => exact ⟨(0), (by first | rfl | (simp; done) | (simp [*]; done)), H', ⟨Nat.le_refl _⟩, by repeat (first | exact Drawn0.refl _ | apply Drawn0.step)⟩
    case round =>
      clear H'
      try clear c1
      try clear p2
      try clear c3
      try clear c3b0
      try clear c3b1
      try clear c3b2
      obtain ⟨x13_1, rfl, HA, HK1, ⟨m1, rfl⟩⟩ := hrel
      cases gk with
      | zero => exact absurd HA.out (by simp [slices_Equal_int_int.l0])
      | succ k1 =>
        have H := HA.out
        clear HA
        simp only [slices_Equal_int_int.l0] at H
        by_cases c4 : x13_1 < (l0.length : Int)
        · rw [if_pos c4] at H
          have c4b0 : decide (x13_1 < (l0.length : Int)) = true := decide_eq_true c4
          clear c4
          by_cases c5 : 0 ≤ x13_1
          · rw [if_pos c5] at H
            have c5b0 : decide (0 ≤ x13_1) = true := decide_eq_true c5
            clear c5
            by_cases c6 : x13_1 < (l0.length : Int)
            · rw [if_pos c6] at H
              have c6b0 : decide (x13_1 < (l0.length : Int)) = true := decide_eq_true c6
              clear c6
              by_cases c7 : x13_1 < (l1.length : Int)
              · rw [if_pos c7] at H
                have c7b0 : decide (x13_1 < (l1.length : Int)) = true := decide_eq_true c7
                clear c7
                by_cases c8 : (rd l0 x13_1) = (rd l1 x13_1)
                · rw [if_pos c8] at H
                  have c8b0 : ((rd l0 x13_1) == (rd l1 x13_1)) = true := beq_iff_eq.mpr c8
                  have c8b1 : ((rd l0 x13_1) != (rd l1 x13_1)) = false := bne_eq_false_iff_eq.mpr c8
                  clear c8
                  have H' := Aside0.mk H
                  clear H
                  have p1001 : 0 ≤ (x13_1 : Int) := of_decide_eq_true (by first | (with_reducible assumption) | assumption)
                  have q1001 : x13_1 < (l0.length : Int) := of_decide_eq_true (by first | (with_reducible assumption) | assumption)
                  obtain ⟨ad1001, e1001, hx1001_0⟩ := Kd.at_int HR0.out x13_1 p1001 q1001
                  cases e1001
                  replace p1001 := eq_true p1001
                  replace q1001 := eq_true q1001
                  have p1002 : 0 ≤ (x13_1 : Int) := of_decide_eq_true (by first | (with_reducible assumption) | assumption)
                  have q1002 : x13_1 < (l1.length : Int) := of_decide_eq_true (by first | (with_reducible assumption) | assumption)
                  obtain ⟨ad1002, e1002, hx1002_0⟩ := Kd.at_int HR1.out x13_1 p1002 q1002
                  cases e1002
                  replace p1002 := eq_true p1002
                  replace q1002 := eq_true q1002
                  go_wp2
                  repeat (go_quiet (fail); try go_wp2)
                  go_roundg k1
                  case measure => have := HK1.out; omega
                  case rel => exact ⟨(wrap64 (x13_1 + 1)), (by first | rfl | (simp; done) | (simp [*]; done)), H', ⟨by have := HK1.out; omega⟩, by repeat (first | exact Drawn0.refl _ | apply Drawn0.step)⟩
                · rw [if_neg c8] at H
                  have c8b0 : ((rd l0 x13_1) == (rd l1 x13_1)) = false := beq_eq_false_iff_ne.mpr c8
                  have c8b1 : ((rd l0 x13_1) != (rd l1 x13_1)) = true := bne_iff_ne.mpr c8
                  obtain rfl := Option.some.inj H
                  have p1001 : 0 ≤ (x13_1 : Int) := of_decide_eq_true (by first | (with_reducible assumption) | assumption)
                  have q1001 : x13_1 < (l0.length : Int) := of_decide_eq_true (by first | (with_reducible assumption) | assumption)
                  obtain ⟨ad1001, e1001, hx1001_0⟩ := Kd.at_int HR0.out x13_1 p1001 q1001
                  cases e1001
                  replace p1001 := eq_true p1001
                  replace q1001 := eq_true q1001
                  have p1002 : 0 ≤ (x13_1 : Int) := of_decide_eq_true (by first | (with_reducible assumption) | assumption)
                  have q1002 : x13_1 < (l1.length : Int) := of_decide_eq_true (by first | (with_reducible assumption) | assumption)
                  obtain ⟨ad1002, e1002, hx1002_0⟩ := Kd.at_int HR1.out x13_1 p1002 q1002
                  cases e1002
                  replace p1002 := eq_true p1002
                  replace q1002 := eq_true q1002
                  go_wp2
                  repeat (go_quiet (fail); try go_wp2)
                  go_ret
                  exact ⟨by first | rfl | (simp; done) | (simp [*]; done), by repeat (first | exact Drawn0.refl _ | apply Drawn0.step)⟩
              · rw [if_neg c7] at H
                exact absurd H (by simp)
            · rw [if_neg c6] at H
              exact absurd H (by simp)
          · rw [if_neg c5] at H
            exact absurd H (by simp)
        · rw [if_neg c4] at H
          have c4b0 : decide (x13_1 < (l0.length : Int)) = false := decide_eq_false c4
          clear c4
          obtain rfl := Option.some.inj H
          go_wp2
          repeat (go_quiet (fail); try go_wp2)
          go_ret
          exact ⟨by first | rfl | (simp; done) | (simp [*]; done), by repeat (first | exact Drawn0.refl _ | apply Drawn0.step)⟩
  · rw [if_neg c3] at H
    have c3b0 : ((l0.length : Int) == (l1.length : Int)) = false := beq_eq_false_iff_ne.mpr c3
    have c3b1 : ((l0.length : Int) != (l1.length : Int)) = true := bne_iff_ne.mpr c3
    have c3b2 : (l0.length == l1.length) = false := by first | simpa using c3 | (simp at c3 ⊢; omega)
    obtain rfl := Option.some.inj H
    go_enter Try.func11, Try.ntmps11
    go_wp2
    repeat (go_quiet (fail); try go_wp2)
    go_ret
    exact ⟨by first | rfl | (simp; done) | (simp [*]; done), by repeat (first | exact Drawn0.refl _ | apply Drawn0.step)⟩

end Go.Proofs.Ytknchioabngbiaa.P
namespace Go.Proofs.Ytknchioabngbiaa.P
open Go.RowKit Go.Proofs.YtknchioabngbiaaW.PrintWords Go.Proofs.YtknchioabngbiaaW.PrintLast Go.Proofs.YtknchioabngbiaaW.PrintMore
attribute [local go_sem] max2_int min2_int max_two min_two max_three min_three max_four min_four   -- for this text's walks alone
set_option linter.unusedVariables false
set_option linter.unusedSimpArgs false

/-! ### sackbutref05_mod: function 50 -/
def sackbutref05_mod.f (a0 : Int) (a1 : Int) : Option (Int) := if a1 = 0 then (none) else (some (Int.tmod (wrap64 ((Int.tmod a0 a1) + a1)) a1))
set_option maxHeartbeats 8000000 in
set_option maxRecDepth 100000 in
theorem sackbutref05_mod.calls (a0 : Int) (a1 : Int) (r : Int) (w : World) (h : sackbutref05_mod.f a0 a1 = some r) :
    Calls Try.prog 50 #[.int .i64 a0, .int .i64 a1] w fun e w' => e = .returned (.int .i64 r) ∧ Drawn0 w w' := by
  have H : (if a1 = 0 then (none) else (some (Int.tmod (wrap64 ((Int.tmod a0 a1) + a1)) a1))) = some r := h
  clear h
  by_cases c3 : a1 = 0
  · rw [if_pos c3] at H
    exact absurd H (by simp)
  · rw [if_neg c3] at H
    have c3b0 : (a1 == 0) = false := beq_eq_false_iff_ne.mpr c3
    have c3b1 : (a1 != 0) = true := bne_iff_ne.mpr c3
    obtain rfl := Option.some.inj H
    go_enter Try.func50, Try.ntmps50
    go_wp2
    go_ret
    exact ⟨by first | rfl | (simp; done) | (simp [*]; done), by repeat (first | exact Drawn0.refl _ | apply Drawn0.step)⟩

end Go.Proofs.Ytknchioabngbiaa.P
namespace Go.Proofs.Ytknchioabngbiaa.P
open Go.RowKit Go.Proofs.YtknchioabngbiaaW.PrintWords Go.Proofs.YtknchioabngbiaaW.PrintLast Go.Proofs.YtknchioabngbiaaW.PrintMore
attribute [local go_sem] max2_int min2_int max_two min_two max_three min_three max_four min_four   -- for this text's walks alone
set_option linter.unusedVariables false
set_option linter.unusedSimpArgs false

/-! ### sackbutref05_Steps: function 36 -/
def sackbutref05_Steps.l0 : Nat → List Int → Int → List Int → Int → Option (List Int)
  | 0, _, _, _, _ => none
  | k + 1, x0, x1, x5, x6 => if x6 < (x0.length : Int) then (if 0 ≤ x6 then (if 0 ≤ (wrap64 (x6 - 1)) then (if (wrap64 (x6 - 1)) < (x0.length : Int) then ((sackbutref05_mod.f (wrap64 ((rd x0 x6) - (rd x0 (wrap64 (x6 - 1))))) x1).bind fun t1003 => (if x5.length < 17592186044416 then (sackbutref05_Steps.l0 k x0 x1 (x5 ++ [t1003]) (wrap64 (x6 + 1))) else (none))) else (none)) else (none)) else (none)) else (some x5)
def sackbutref05_Steps.f (k : Nat) (l0 : List Int) (a1 : Int) : Option (List Int) := sackbutref05_Steps.l0 k l0 a1 ([] : List Int) 1
theorem sackbutref05_Steps.mono_l : ∀ k, (∀ y0 y1 y2 y3, LeO (sackbutref05_Steps.l0 k y0 y1 y2 y3) (sackbutref05_Steps.l0 (k + 1) y0 y1 y2 y3))
  | 0 => fun _ _ _ _ r h => by simp [sackbutref05_Steps.l0] at h
  | k + 1 => by
    have ih0 := sackbutref05_Steps.mono_l k
    · intro y0 y1 y2 y3
      unfold sackbutref05_Steps.l0
      repeat' first
      | (with_reducible exact ih0 _ _ _ _)
      | (with_reducible exact LeO.refl _)
      | (with_reducible exact LeO.none _)
      | (with_reducible refine LeO.ite ?_ ?_)
      | (with_reducible refine LeO.bind ?_ (fun _ => ?_))
      | exact ih0 _ _ _ _
      | exact LeO.none _
      | refine LeO.ite ?_ ?_
      | refine LeO.bind ?_ (fun _ => ?_)
theorem sackbutref05_Steps.mono : ∀ a0 a1 k, LeO (sackbutref05_Steps.f k a0 a1) (sackbutref05_Steps.f (k + 1) a0 a1) := by
  intro a0 a1 k
  have ih0 := sackbutref05_Steps.mono_l k
  unfold sackbutref05_Steps.f
  repeat' first
      | (with_reducible exact ih0 _ _ _ _)
      | (with_reducible exact LeO.refl _)
      | (with_reducible exact LeO.none _)
      | (with_reducible refine LeO.ite ?_ ?_)
      | (with_reducible refine LeO.bind ?_ (fun _ => ?_))
      | exact ih0 _ _ _ _
      | exact LeO.none _
      | refine LeO.ite ?_ ?_
      | refine LeO.bind ?_ (fun _ => ?_)
def sackbutref05_Steps.T5 : Bool × List (List Nat × List Nat) := (true, [([], []), ([], []), ([], []), ([1, 2], [1, 2]), ([3], [3]), ([], []), ([], []), ([6], [6]), ([5, 7], [5, 7]), ([8], [8]), ([4, 9], [4, 9]), ([], []), ([10, 11], [10, 11]), ([12], [12]), ([0, 13, 12], [0, 13]), ([14, 14, 0, 1, 2, 3, 4, 5, 6, 7, 8, 9, 10, 11, 12, 13, 14], [0, 14])])
def sackbutref05_Steps.B5 : List Nat := [0, 0, 0, 6, 14, 0, 0, 64, 224, 480, 1022, 0, 4094, 8190, 16383, 32767]
theorem sackbutref05_Steps.tab5 : rtab .any (opsOf Try.f36 5) = sackbutref05_Steps.T5 := by kernel_rfl
theorem sackbutref05_Steps.bits5 : waitsOk sackbutref05_Steps.T5.2 sackbutref05_Steps.B5 = true := by kernel_rfl
set_option maxHeartbeats 8000000 in
set_option maxRecDepth 100000 in
theorem sackbutref05_Steps.calls (k : Nat) (A0 : Option Addr) (c0 : Nat) (l0 : List Int) (a1 : Int) (r : List Int) (w : World) (hr0 : Kd.C (Kd.int .i64) w A0 l0.length l0) (hc0 : l0.length ≤ c0) (h : sackbutref05_Steps.f k l0 a1 = some r) :
    Calls Try.prog 36 #[.slice A0 l0.length c0, .int .i64 a1] w fun e w' => ∃ v0_ : Value, e = .returned (v0_) ∧ Kd.R (Kd.int .i64) 3 w' w.heap.size (fun _ => True) v0_ r ∧ Below w.heap.size w w' := by
  have HR0 := Aside0.mk hr0
  have HC0 := Aside0.mk hc0
  clear hr0 hc0
  have HB := Aside0.mk (Below.refl w.heap.size w)
  have H : (sackbutref05_Steps.l0 k l0 a1 ([] : List Int) 1) = some r := h
  clear h
  have H' := Aside0.mk H
  clear H
  go_enter Try.func36, Try.ntmps36
  go_wp2
  go_loopg [5, 6] k (fun kq v5 v6 w' => ∃ (x5_1 : List Int) (x6_1 : Int), v6 = .int .i64 x6_1 ∧ Aside0 (sackbutref05_Steps.l0 kq l0 a1 x5_1 x6_1 = some r) ∧ Aside0 (kq ≤ k) ∧ Aside0 (Kd.R (Kd.int .i64) 3 w' w.heap.size (fun _ => True) v5 x5_1) ∧ Aside0 (Below w.heap.size w w'))
  case atStart => exact ⟨(([] : List Int)), (1), (by first | rfl | (simp; done) | (simp [*]; done)), H', ⟨Nat.le_refl _⟩, ⟨by first | exact Kd.R_nil _ _ _ _ _ | exact Kd.N_nil _ _ _ _ _ | exact Kd.V_nil _ _ _ _ _ | exact Kd.Q_nil _ _ _ _ _ | exact Kd.S_nil _ _ _ _ _⟩, ⟨by repeat (first | (with_reducible first | exact HB.out | apply below_alloc | apply pw_below_drewN | apply below_drew1) | exact HB.out)⟩⟩
  case round =>
    clear H'
    try clear p2
    obtain ⟨x5_1, x6_1, rfl, HA, HK1, HO_5, HB⟩ := hrel
    cases gk with
    | zero => exact absurd HA.out (by simp [sackbutref05_Steps.l0])
    | succ k1 =>
      have H := HA.out
      clear HA
      simp only [sackbutref05_Steps.l0] at H
      by_cases c3 : x6_1 < (l0.length : Int)
      · rw [if_pos c3] at H
        have c3b0 : decide (x6_1 < (l0.length : Int)) = true := decide_eq_true c3
        clear c3
        by_cases c4 : 0 ≤ x6_1
        · rw [if_pos c4] at H
          have c4b0 : decide (0 ≤ x6_1) = true := decide_eq_true c4
          clear c4
          obtain ⟨ji5, hji5⟩ : ∃ j_ : Int, (wrap64 (x6_1 - 1)) = j_ := ⟨_, rfl⟩
          replace H : (if 0 ≤ (ji5) then (if (ji5) < (l0.length : Int) then ((sackbutref05_mod.f (wrap64 ((rd l0 x6_1) - (rd l0 (ji5)))) a1).bind fun t1003 => (if x5_1.length < 17592186044416 then (sackbutref05_Steps.l0 k1 l0 a1 (x5_1 ++ [t1003]) (wrap64 (x6_1 + 1))) else (none))) else (none)) else (none)) = some r := by first | (rw [hji5] at H; exact H) | (simp only [hji5] at H ⊢; exact H)
          have hji5w : (IntKind.i64.wrap (x6_1 - 1)) = ji5 := (i64_w _).trans hji5
          by_cases c6 : 0 ≤ (ji5)
          · rw [if_pos c6] at H
            have c6b0 : decide (0 ≤ (ji5)) = true := decide_eq_true c6
            clear c6
            by_cases c7 : (ji5) < (l0.length : Int)
            · rw [if_pos c7] at H
              have c7b0 : decide ((ji5) < (l0.length : Int)) = true := decide_eq_true c7
              clear c7
              replace H := Option.bind_eq_some_iff.mp H
              obtain ⟨t1003, A80, H⟩ := H
              replace H : (if x5_1.length < 17592186044416 then (sackbutref05_Steps.l0 k1 l0 a1 (x5_1 ++ [t1003]) (wrap64 (x6_1 + 1))) else (none)) = some r := H
              have A8 := Aside0.mk A80
              clear A80
              by_cases c9 : x5_1.length < 17592186044416
              · rw [if_pos c9] at H
                have LMc9 := Aside0.mk c9
                clear c9
                obtain ⟨y1004, hy1004⟩ : ∃ y_ : List Int, y_ = (x5_1 ++ [t1003]) := ⟨_, rfl⟩
                replace H : (sackbutref05_Steps.l0 k1 l0 a1 y1004 (wrap64 (x6_1 + 1))) = some r := by first | (rw [hy1004]; with_reducible exact H) | (have H2_ := (Option.bind_some _ _).symm.trans H; rw [hy1004]; with_reducible exact H2_) | (have H2_ := (Option.bind_some _ _).symm.trans H; with_reducible exact H2_) | with_reducible exact H | (rw [hy1004]; exact H) | exact H
                have Ny1004 := Aside0.mk hy1004
                clear hy1004
                have H' := Aside0.mk H
                clear H
                try go_wp2
                have n0_ := Aside0.mk (Kd.R_drew HO_5.out)
                have n1_ := Aside0.mk (below_drew1 HB.out)
                clear HO_5
                clear HB
                have HO_5 := n0_
                have HB := n1_
                clear n0_ n1_
                have p1001 : 0 ≤ (x6_1 : Int) := of_decide_eq_true (by first | (with_reducible assumption) | assumption)
                have q1001 : x6_1 < (l0.length : Int) := of_decide_eq_true (by first | (with_reducible assumption) | assumption)
                obtain ⟨ad1001, e1001, hx1001_0⟩ := Kd.at_int HR0.out x6_1 p1001 q1001
                have hw1001_0 := hx1001_0
                cases e1001
                replace hx1001_0 := (HB.out.cell (World.block_lt_of_cell? w _ hx1001_0)).trans hx1001_0
                replace p1001 := eq_true p1001
                replace q1001 := eq_true q1001
                have p1002 : 0 ≤ ((ji5) : Int) := of_decide_eq_true (by first | (with_reducible assumption) | assumption)
                have q1002 : (ji5) < (l0.length : Int) := of_decide_eq_true (by first | (with_reducible assumption) | assumption)
                obtain ⟨ad1002, e1002, hx1002_0⟩ := Kd.at_int HR0.out (ji5) p1002 q1002
                have hw1002_0 := hx1002_0
                obtain rfl : ad1001 = ad1002 := (by injection e1002)
                replace hx1002_0 := (HB.out.cell (World.block_lt_of_cell? w _ hx1002_0)).trans hx1002_0
                replace p1002 := eq_true p1002
                replace q1002 := eq_true q1002
                refine start_ (n := 16) (S := fun w' => w'.cell? (ad1001.add (x6_1).toNat) = some (.int .i64 (rd l0 x6_1)) ∧ w'.cell? (ad1001.add ((ji5)).toNat) = some (.int .i64 (rd l0 (ji5)))) (ds := []) #[false, false, false, false, false, false, false, false, false, false, false, false, false, false, false, false] (by kernel_rfl) rfl rfl ⟨((HB.out.cell (World.block_lt_of_cell? w _ hw1001_0)).trans hw1001_0), ((HB.out.cell (World.block_lt_of_cell? w _ hw1002_0)).trans hw1002_0)⟩ (fun hHeld => ?_); refine with_tabW sackbutref05_Steps.tab5 sackbutref05_Steps.bits5 (fun HT_ HW_ => ?_)
                generalize wr.drew = w10 at HO_5 HB hx1001_0 hx1002_0 hHeld ⊢
                refine pure_ (i := 0) (N := some 13) (v := ?_) (a' := ?_) #[true, false, false, false, false, false, false, false, false, false, false, false, false, false, false, false] rfl rfl (any_of HT_.out (by kernel_rfl)) (fun _ _ _ h => h) (Or.inl ⟨by rfl, ?_⟩) ?_ ?_
                rotate_left
                · intro w'
                  go_simp
                  with_reducible rfl
                rotate_left
                · simp only [Act.put, List.setIfInBounds_toArray, List.set_cons_zero, List.set_cons_succ, i64_w, i32_w]
                  rfl
                refine pure_ (i := 1) (N := some 14) (v := ?_) (a' := ?_) #[true, true, false, false, false, false, false, false, false, false, false, false, false, false, false, false] rfl rfl (any_of HT_.out (by kernel_rfl)) (fun _ _ _ h => h) (Or.inl ⟨by rfl, ?_⟩) ?_ ?_
                rotate_left
                · intro w'
                  go_simp
                  with_reducible rfl
                rotate_left
                · simp only [Act.put, List.setIfInBounds_toArray, List.set_cons_zero, List.set_cons_succ, i64_w, i32_w]
                  rfl
                refine pure_ (i := 2) (N := some 15) (v := ?_) (a' := ?_) #[true, true, true, false, false, false, false, false, false, false, false, false, false, false, false, false] rfl rfl (any_of HT_.out (by kernel_rfl)) (fun _ _ _ h => h) (Or.inl ⟨by rfl, ?_⟩) ?_ ?_
                rotate_left
                · intro w'
                  go_simp
                  with_reducible rfl
                rotate_left
                · simp only [Act.put, List.setIfInBounds_toArray, List.set_cons_zero, List.set_cons_succ, i64_w, i32_w]
                  rfl
                refine pure_ (i := 3) (N := some 16) (v := ?_) (a' := ?_) #[true, true, true, true, false, false, false, false, false, false, false, false, false, false, false, false] rfl rfl (any_of HT_.out (by kernel_rfl)) (fun _ _ _ h => h) (Or.inl ⟨by rfl, ?_⟩) ?_ ?_
                rotate_left
                · intro w'
                  go_simp
                  with_reducible rfl
                rotate_left
                · simp only [Act.put, List.setIfInBounds_toArray, List.set_cons_zero, List.set_cons_succ, i64_w, i32_w]
                  rfl
                refine pure_ (i := 5) (N := some 18) (v := ?_) (a' := ?_) #[true, true, true, true, false, true, false, false, false, false, false, false, false, false, false, false] rfl rfl (any_of HT_.out (by kernel_rfl)) (fun _ _ _ h => h) (Or.inl ⟨by rfl, ?_⟩) ?_ ?_
                rotate_left
                · intro w'
                  go_simp
                  with_reducible rfl
                rotate_left
                · simp only [Act.put, List.setIfInBounds_toArray, List.set_cons_zero, List.set_cons_succ, i64_w, i32_w]
                  rfl
                refine pure_ (i := 6) (N := some 19) (v := ?_) (a' := ?_) #[true, true, true, true, false, true, true, false, false, false, false, false, false, false, false, false] rfl rfl (any_of HT_.out (by kernel_rfl)) (fun _ _ _ h => h) (Or.inl ⟨by rfl, ?_⟩) ?_ ?_
                rotate_left
                · intro w'
                  go_simp
                  with_reducible rfl
                rotate_left
                · simp only [Act.put, List.setIfInBounds_toArray, List.set_cons_zero, List.set_cons_succ, i64_w, i32_w]
                  rfl
                refine pure_ (i := 7) (N := some 20) (v := ?_) (a' := ?_) #[true, true, true, true, false, true, true, true, false, false, false, false, false, false, false, false] rfl rfl (any_of HT_.out (by kernel_rfl)) (fun _ _ _ h => h) (Or.inl ⟨by rfl, ?_⟩) ?_ ?_
                rotate_left
                · intro w'
                  go_simp
                  with_reducible rfl
                rotate_left
                · simp only [Act.put, List.setIfInBounds_toArray, List.set_cons_zero, List.set_cons_succ, i64_w, i32_w]
                  rfl
                refine pure_ (i := 8) (N := some 21) (v := ?_) (a' := ?_) #[true, true, true, true, false, true, true, true, true, false, false, false, false, false, false, false] rfl rfl (any_of HT_.out (by kernel_rfl)) (fun _ _ _ h => h) (Or.inl ⟨by rfl, ?_⟩) ?_ ?_
                rotate_left
                · intro w'
                  go_simp
                  with_reducible rfl
                rotate_left
                · simp only [Act.put, List.setIfInBounds_toArray, List.set_cons_zero, List.set_cons_succ, i64_w, i32_w]
                  rfl
                refine pure_ (i := 11) (N := some 24) (v := ?_) (a' := ?_) #[true, true, true, true, false, true, true, true, true, false, false, true, false, false, false, false] rfl rfl (any_of HT_.out (by kernel_rfl)) (fun _ _ _ h => h) (Or.inl ⟨by rfl, ?_⟩) ?_ ?_
                rotate_left
                · intro w'
                  go_simp
                  with_reducible rfl
                rotate_left
                · simp only [Act.put, List.setIfInBounds_toArray, List.set_cons_zero, List.set_cons_succ, i64_w, i32_w]
                  rfl
                refine take_ (i := 4) (N := some 17) (v := ?_) (a' := ?_) #[true, true, true, true, true, true, true, true, true, false, false, true, false, false, false, false] rfl rfl (take_ofW HT_.out HW_.out (by kernel_rfl)) (fun _ _ _ h => h) (Or.inl ⟨by rfl, ?_⟩) hHeld ?_ ?_
                rotate_left
                · rintro w' ⟨s0, s1⟩
                  go_simp
                  with_reducible rfl
                rotate_left
                · simp only [Act.put, List.setIfInBounds_toArray, List.set_cons_zero, List.set_cons_succ, i64_w, i32_w]
                  rfl
                refine take_ (i := 9) (N := some 22) (v := ?_) (a' := ?_) #[true, true, true, true, true, true, true, true, true, true, false, true, false, false, false, false] rfl rfl (take_ofW HT_.out HW_.out (by kernel_rfl)) (fun _ _ _ h => h) (Or.inl ⟨by rfl, ?_⟩) hHeld ?_ ?_
                rotate_left
                · rintro w' ⟨s0, s1⟩
                  go_simp
                  with_reducible rfl
                rotate_left
                · simp only [Act.put, List.setIfInBounds_toArray, List.set_cons_zero, List.set_cons_succ, i64_w, i32_w]
                  rfl
                refine pure_ (i := 10) (N := some 23) (v := ?_) (a' := ?_) #[true, true, true, true, true, true, true, true, true, true, true, true, false, false, false, false] rfl rfl (any_of HT_.out (by kernel_rfl)) (fun _ _ _ h => h) (Or.inl ⟨by rfl, ?_⟩) ?_ ?_
                rotate_left
                · intro w'
                  go_simp
                  with_reducible rfl
                rotate_left
                · simp only [Act.put, List.setIfInBounds_toArray, List.set_cons_zero, List.set_cons_succ, i64_w, i32_w]
                  rfl
                refine one_ (i := 12) (N := some 25) #[true, true, true, true, true, true, true, true, true, true, true, true, true, false, false, false] rfl rfl (one_of HT_.out (by kernel_rfl)) (by decide) (fun K hK => ?_)
                refine goes_ Try.func50 (by kernel_rfl) rfl #[.int .i64 (wrap64 ((rd l0 x6_1) - (rd l0 (ji5)))), .int .i64 a1] (by rfl) rfl rfl (by (try simp only [List.map_toArray, List.map_cons, List.map_nil]); first | done | (simp only [hji5]; rfl) | rfl | (simp only [List.length_drop, List.length_take]; rfl)) ?_
                with_reducible refine (sackbutref05_mod.calls (wrap64 ((rd l0 x6_1) - (rd l0 (ji5)))) a1 t1003 _ A8.out).mono ?_
                rintro e w' ⟨rfl, ⟨nd, rfl⟩⟩
                refine ⟨_, rfl, ?_⟩
                refine hK.out _ _ ⟨((HB.out.cell (World.block_lt_of_cell? w _ hw1001_0)).trans hw1001_0), ((HB.out.cell (World.block_lt_of_cell? w _ hw1002_0)).trans hw1002_0)⟩ (fun hHeld => ?_)
                clear hK K
                refine norm_ (a' := ?_) ?_ ?_
                rotate_left
                · show Act.put _ (some 25) _ = _
                  simp only [Act.put, List.setIfInBounds_toArray, List.set_cons_zero, List.set_cons_succ, i64_w, i32_w]
                  rfl
                refine one_ (i := 13) (N := some 26) #[true, true, true, true, true, true, true, true, true, true, true, true, true, true, false, false] rfl rfl (one_of HT_.out (by kernel_rfl)) (by decide) (fun K hK => ?_)
                refine value_ (w1 := ?_) (v := ?_) (by rfl) rfl ?_ ?_
                rotate_left 2
                · go_simp
                  constructor
                  · rfl
                  · rfl
                refine hK.out _ _ ⟨(World.cell?_alloc_lt _ _ _ (World.block_lt_of_cell? _ _ (((HB.out.cell (World.block_lt_of_cell? w _ hw1001_0)).trans hw1001_0)))).trans (((HB.out.cell (World.block_lt_of_cell? w _ hw1001_0)).trans hw1001_0)), (World.cell?_alloc_lt _ _ _ (World.block_lt_of_cell? _ _ (((HB.out.cell (World.block_lt_of_cell? w _ hw1002_0)).trans hw1002_0)))).trans (((HB.out.cell (World.block_lt_of_cell? w _ hw1002_0)).trans hw1002_0))⟩ (fun hHeld => ?_)
                clear hK K
                refine norm_ (a' := ?_) ?_ ?_
                rotate_left
                · show Act.put _ (some 26) _ = _
                  simp only [Act.put, List.setIfInBounds_toArray, List.set_cons_zero, List.set_cons_succ, i64_w, i32_w]
                  rfl
                refine one_ (i := 14) (N := some 27) #[true, true, true, true, true, true, true, true, true, true, true, true, true, true, true, false] rfl rfl (one_of HT_.out (by kernel_rfl)) (by decide) (fun K hK => ?_)
                refine Kd.R_append_step (Kd.int .i64) (w0 := w) w.heap.size (by rfl) (.tmp 13) (.tmp 26) 27 3 (.int .i64 0) 8 rfl Try.underlying27 info3 rfl (by decide) (by omega) u5 x5_1 t1003 [.int .i64 t1003] (fun _ => True) (fun _ => False) rfl rfl ?aP (fun _ hk => hk.elim) ?aF ?aO ?aB ?aS ?aL ?_
                (case aP => exact rfl)
                (case aB => exact (by repeat (first | (with_reducible first | exact HB.out | apply below_alloc | apply pw_below_drewN | apply below_drew1) | exact HB.out)))
                (case aF => exact (fun _ _ => trivial))
                (case aO => exact (by (with_reducible repeat (first | apply Kd.R_alloc | apply Kd.R_drewN | apply Kd.R_drew)); exact HO_5.out))
                (case aS => exact (below_size (by repeat (first | (with_reducible first | exact HB.out | apply below_alloc | apply pw_below_drewN | apply below_drew1) | exact HB.out))))
                (case aL => have := LMc9.out; omega)
                intro v1005 w11 ho hb hg hat
                rw [← Ny1004.out] at ho
                have n0_ := Aside0.mk (hb)
                have n1_ := Aside0.mk (ho)
                clear HB
                clear HO_5
                have HB := n0_
                have HO1006 := n1_
                clear n0_ n1_
                clear ho hb hg hat
                refine hK.out _ _ ⟨((HB.out.cell (World.block_lt_of_cell? w _ hw1001_0)).trans hw1001_0), ((HB.out.cell (World.block_lt_of_cell? w _ hw1002_0)).trans hw1002_0)⟩ (fun hHeld => ?_)
                clear hK K
                refine norm_ (a' := ?_) ?_ ?_
                rotate_left
                · show Act.put _ (some 27) _ = _
                  simp only [Act.put, List.setIfInBounds_toArray, List.set_cons_zero, List.set_cons_succ, i64_w, i32_w]
                  rfl
                refine pure_ (i := 15) (N := some 5) (v := ?_) (a' := ?_) #[true, true, true, true, true, true, true, true, true, true, true, true, true, true, true, true] rfl rfl (any_of HT_.out (by kernel_rfl)) (fun _ _ _ h => h) (Or.inl ⟨by rfl, ?_⟩) ?_ ?_
                rotate_left
                · intro w'
                  go_simp
                  with_reducible rfl
                rotate_left
                · simp only [Act.put, List.setIfInBounds_toArray, List.set_cons_zero, List.set_cons_succ, i64_w, i32_w]
                  rfl
                refine done_ (done_of HT_.out (by kernel_rfl)) ?_
                try go_wp2
                go_roundg k1
                case measure => have := HK1.out; omega
                case rel => exact ⟨(y1004), (wrap64 (x6_1 + 1)), (by first | rfl | (simp; done) | (simp [*]; done)), H', ⟨by have := HK1.out; omega⟩, ⟨by (with_reducible repeat (first | apply Kd.R_alloc | apply Kd.R_drewN | apply Kd.R_drew)); exact HO1006.out⟩, ⟨by repeat (first | (with_reducible first | exact HB.out | apply below_alloc | apply pw_below_drewN | apply below_drew1) | exact HB.out)⟩⟩
              · rw [if_neg c9] at H
                exact absurd H (by simp)
            · rw [if_neg c7] at H
              exact absurd H (by simp)
          · rw [if_neg c6] at H
            exact absurd H (by simp)
        · rw [if_neg c4] at H
          exact absurd H (by simp)
      · rw [if_neg c3] at H
        have c3b0 : decide (x6_1 < (l0.length : Int)) = false := decide_eq_false c3
        clear c3
        obtain rfl := Option.some.inj H
        go_wp2
        go_ret
        exact ⟨_, by first | rfl | (simp [errW_none, errW_some] <;> rfl) | (simp [*, errW_none, errW_some] <;> rfl), by (with_reducible repeat (first | apply Kd.R_alloc | apply Kd.R_drewN | apply Kd.R_drew)); exact HO_5.out, by repeat (first | (with_reducible first | exact HB.out | apply below_alloc | apply pw_below_drewN | apply below_drew1) | exact HB.out)⟩

end Go.Proofs.Ytknchioabngbiaa.P
