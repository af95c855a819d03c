/- A part of a proof that a law's Go function returns true for every input, laid by this session's program mp.py (which drives the kit's print). Conditions: as each theorem states them. -/
import Derived.StillTailTactics
import Derived.Laws.EntriesVeiled
import Derived.Shelf.Abstract
import Derived.Test.YtpfjnpbcnlbhaaaCRowsFills1
import Derived.Test.YtpfjnpbcnlbhaaaCRowsFills2
namespace Go.Proofs.Ytpfjnpbcnlbhaaa.P
open Go.RowKit Go.Proofs.YtpfjnpbcnlbhaaaW.PrintWords Go.Proofs.YtpfjnpbcnlbhaaaW.PrintLast Go.Proofs.YtpfjnpbcnlbhaaaW.PrintMore
attribute [local go_sem] max2_int min2_int max_two min_two max_three min_three max_four min_four   -- for this text's walks alone
set_option linter.unusedVariables false
set_option linter.unusedSimpArgs false

/-! rows.search.all: all rows that begin so, in order, handed to a function -/
/-- all full rows that begin so, in order -/
def srch (n : Nat) : Nat → List Nat → Nat → Nat → List (List Nat)
  | 0, cur, _, _ => [cur]
  | r + 1, cur, t, s => (List.range n).flatMap fun x => match addS n cur t s x with
    | none => []
    | some p => srch n r (cur ++ [x]) p.1 p.2
def srchTo (n r : Nat) (cur : List Nat) (t s m : Nat) : List (List Nat) := (List.range m).flatMap fun x => match addS n cur t s x with
    | none => []
    | some p => srch n r (cur ++ [x]) p.1 p.2
theorem srchTo_succ (n r : Nat) (cur : List Nat) (t s m : Nat) : srchTo n r cur t s (m + 1) = srchTo n r cur t s m ++ (match addS n cur t s m with | none => [] | some p => srch n r (cur ++ [m]) p.1 p.2) := by
  unfold srchTo; rw [List.range_succ]; simp
section
variable {σ : Type} (step : σ → List Nat → σ) (go : σ → List Nat → Bool)
/-- what a function that may stop does with a list -/
def runL : List (List Nat) → σ → σ × Bool
  | [], q => (q, true)
  | x :: l, q => if go q x then runL l (step q x) else (step q x, false)
theorem runL_app : ∀ (l m : List (List Nat)) (q : σ), runL step go (l ++ m) q = if (runL step go l q).2 = true then runL step go m (runL step go l q).1 else runL step go l q
  | [], _, _ => rfl
  | x :: l, m, q => by
    rw [List.cons_append, runL, runL]
    cases go q x with
    | true => simp only [if_true]; exact runL_app l m (step q x)
    | false => simp
end
section
variable {σ : Type} (n g : Nat) (lb : Array Value) (P : World → Nat → Prop) (J : σ → World → Prop) (step : σ → List Nat → σ) (go : σ → List Nat → Bool)
structure SInter : Prop where
  keep : ∀ q A B, J q A → Below A.heap.size A B → J q B ∧ ∀ i, P B i ↔ P A i
  lt : ∀ q A i, J q A → P A i → i < A.heap.size
def SPost (W : World) (r : σ × Bool) (e : Ending) (W' : World) : Prop := e = .returned (.bool r.2) ∧ J r.1 W' ∧ Fr (fun i => ¬ P W i ∧ i < W.heap.size) W W' ∧ ∀ i, P W' i → P W i ∨ W.heap.size ≤ i
def MoreS : Prop := ∀ (q : σ) (x : List Nat) (A : Option Addr) (c : Nat) (W : World), J q W → x.length = n → (∀ y ∈ x, y < n) → (nums x).length ≤ c → Kd.C (Kd.int .i64) W A (nums x).length (nums x) → (∀ b, A = some b → ¬ P W b.block ∧ b.block < W.heap.size) →
  Calls Try.prog g (#[.slice A (nums x).length c] ++ lb) W (SPost P J W (step q x, go q x))
def AllT (cur : List Nat) (t s : Nat) (q : σ) (A : Option Addr) (c : Nat) (W : World) (r : σ × Bool) : Prop :=
  Calls Try.prog 66 #[.agg #[.int .i64 (n : Int), .slice A (nums cur).length c, .int .i64 (t : Int), .int .i64 (s : Int)], .func (.func g) #[] lb] W (SPost P J W r)
end
theorem C_fr {w w' : World} {K : Nat → Prop} {A : Option Addr} {m : Nat} {xs : List Int} (h : Kd.C (Kd.int .i64) w A m xs) (hA : ∀ b, A = some b → K b.block) (hf : Fr K w w') : Kd.C (Kd.int .i64) w' A m xs := by
  obtain ⟨h1, h2, h3⟩ := h
  refine ⟨h1, h2, fun hn => ?_⟩
  obtain ⟨ad, e, hc⟩ := h3 hn
  refine ⟨ad, e, fun j p hp => ?_⟩
  obtain ⟨c, hcl, hR, hcc⟩ := hc j p hp
  refine ⟨c, hcl, hR, fun i u hu => ?_⟩
  have h4 := hcc i u hu
  rw [World.cell?_of_block (hf.block _ (by rw [add_block_]; exact hA ad e))]
  exact h4
theorem srchTo_stop {σ : Type} (step : σ → List Nat → σ) (go : σ → List Nat → Bool) {n r x : Nat} {cur : List Nat} {t s : Nat} {q : σ} (h : (runL step go (srchTo n r cur t s (x + 1)) q).2 = false) (hx : x < n) : runL step go (srchTo n r cur t s n) q = runL step go (srchTo n r cur t s (x + 1)) q := by
  obtain ⟨d, hd⟩ : ∃ d, n = x + 1 + d := ⟨n - (x + 1), by omega⟩
  have key : ∀ d, runL step go (srchTo n r cur t s (x + 1 + d)) q = runL step go (srchTo n r cur t s (x + 1)) q := by
    intro d
    induction d with
    | zero => rfl
    | succ d ih => rw [← Nat.add_assoc, srchTo_succ, runL_app, ih, h]; rfl
  have := key d
  rwa [← hd] at this
section
variable {σ : Type} {n g : Nat} {lb : Array Value} {P : World → Nat → Prop} {J : σ → World → Prop} {step : σ → List Nat → σ} {go : σ → List Nat → Bool}
theorem SPost.below {W W1 : World} {r : σ × Bool} {e : Ending} {W' : World} (hI : SInter P J) {q : σ} (hJ : J q W) (hb : Below W.heap.size W W1) (h : SPost P J W1 r e W') : SPost P J W r e W' := by
  obtain ⟨h1, h2, h3, h4⟩ := h
  have hk := (hI.keep q W W1 hJ hb).2
  refine ⟨h1, h2, ⟨h3.os.trans hb.os, h3.tape.trans hb.tape, h3.output.trans hb.output, Nat.le_trans hb.size h3.size, fun i hi => (h3.block i ⟨fun h => hi.1 ((hk i).1 h), Nat.lt_of_lt_of_le hi.2 hb.size⟩).trans (hb.block i hi.2)⟩, fun i hi => ?_⟩
  rcases h4 i hi with h | h
  · exact .inl ((hk i).1 h)
  · exact .inr (Nat.le_trans hb.size h)
set_option maxHeartbeats 4000000 in
set_option maxRecDepth 100000 in
theorem all_end (eg : ∀ args w, (callFunc g args).run Try.prog w = .ok (.enter g args) w) (hI : SInter P J) (hM : MoreS n g lb P J step go) {cur : List Nat} {t s : Nat} {q : σ} {A : Option Addr} {c : Nat} {W : World} (hc : cur.length = n) (hcur : ∀ y ∈ cur, y < n) (hJ : J q W) (hcap : (nums cur).length ≤ c) (hC : Kd.C (Kd.int .i64) W A (nums cur).length (nums cur)) (hA : ∀ b, A = some b → ¬ P W b.block ∧ b.block < W.heap.size) :
    AllT n g lb P J cur t s q A c W (runL step go [cur] q) := by
  unfold AllT
  have hlen : (nums cur).length = n := by rw [nums_length, hc]
  have hb0 : Below W.heap.size W (W.alloc (.cells #[.int .i64 (n : Int), .slice A (nums cur).length c, .int .i64 (t : Int), .int .i64 (s : Int)] 74)) := below_alloc (Below.refl _ _) _
  have hk := hI.keep q W _ hJ hb0
  have hrun := hM q cur A c _ hk.1 hc hcur hcap (Kd.C_below hC hb0) (fun b hb => ⟨fun h => (hA b hb).1 ((hk.2 _).1 h), Nat.lt_of_lt_of_le (hA b hb).2 hb0.size⟩)
  have HB0 := Aside0.mk hb0
  have HJ := Aside0.mk hJ
  have HI := Aside0.mk hI
  rw [hlen] at hrun HB0 ⊢
  have HRUN := Aside0.mk hrun
  clear hrun hk hb0 hM hJ hI hA hC hcap hcur hc hlen
  go_enter Try.func66, Try.ntmps66
  go_wp2_with fail
  refine HRUN.out.mono ?_
  rintro e w' hp
  have h := SPost.below HI.out HJ.out HB0.out hp
  obtain ⟨rfl, h2, h3, h4⟩ := h
  have H2 := Aside0.mk h2
  have H3 := Aside0.mk h3
  have H4 := Aside0.mk h4
  clear hp h2 h3 h4
  go_wp2
  go_ret
  refine ⟨?_, ?_, H3.out, H4.out⟩
  · unfold runL; cases go q cur <;> rfl
  · have h := H2.out
    unfold runL
    cases hg : go q cur
    · exact h
    · exact h
set_option maxHeartbeats 4000000 in
set_option maxRecDepth 100000 in
theorem all_more (hI : SInter P J) (r : Nat) (hn : 1 ≤ n) (hn2 : n ≤ 40) {cur : List Nat} {t s : Nat} {q : σ} {A : Option Addr} {c : Nat} {W : World} (hc : cur.length + (r + 1) = n) (hcur : ∀ y ∈ cur, y < n) (ht : t < 2 ^ n) (hs : s < 2 ^ n) (hJ : J q W) (hcap : (nums cur).length ≤ c) (hC : Kd.C (Kd.int .i64) W A (nums cur).length (nums cur)) (hA : ∀ b, A = some b → ¬ P W b.block ∧ b.block < W.heap.size)
    (ih : ∀ (x t' s' : Nat) (q : σ) (A : Option Addr) (c : Nat) (W : World), x < n → t' < 2 ^ n → s' < 2 ^ n → J q W → (nums (cur ++ [x])).length ≤ c → Kd.C (Kd.int .i64) W A (nums (cur ++ [x])).length (nums (cur ++ [x])) → (∀ b, A = some b → ¬ P W b.block ∧ b.block < W.heap.size) →
      AllT n g lb P J (cur ++ [x]) t' s' q A c W (runL step go (srch n r (cur ++ [x]) t' s') q)) :
    AllT n g lb P J cur t s q A c W (runL step go (srchTo n r cur t s n) q) := by
  unfold AllT
  obtain ⟨L, hlen⟩ : ∃ L, (nums cur).length = L := ⟨_, rfl⟩
  have hne : ((L : Int) == (n : Int)) = false := beq_eq_false_iff_ne.2 (by rw [nums_length] at hlen; omega)
  have HL := Aside0.mk hlen
  have HC := Aside0.mk hC
  have HCAP := Aside0.mk hcap
  have HA := Aside0.mk hA
  have HJ := Aside0.mk hJ
  have HI := Aside0.mk hI
  have HIH := Aside0.mk ih
  have HCUR := Aside0.mk hcur
  have HT := Aside0.mk ht
  have HS := Aside0.mk hs
  have HCL := Aside0.mk hc
  rw [hlen] at hcap ⊢
  clear hC hA hJ hI ih hcur ht hs hlen hc
  go_enter Try.func66, Try.ntmps66
  go_wp2
  have hb0 : Below W.heap.size W (W.alloc (.cells #[.int .i64 (n : Int), .slice A L c, .int .i64 (t : Int), .int .i64 (s : Int)] 74)) := below_alloc (Below.refl _ _) _
  have hblk := World.alloc_heap_new W (.cells #[.int .i64 (n : Int), .slice A L c, .int .i64 (t : Int), .int .i64 (s : Int)] 74)
  have hsz : (W.alloc (.cells #[.int .i64 (n : Int), .slice A L c, .int .i64 (t : Int), .int .i64 (s : Int)] 74)).heap.size = W.heap.size + 1 := World.size_alloc _ _
  generalize W.alloc (.cells #[.int .i64 (n : Int), .slice A L c, .int .i64 (t : Int), .int .i64 (s : Int)] 74) = W1 at hb0 hblk hsz ⊢
  have hk := HI.out.keep q W W1 HJ.out hb0
  have HB0 := Aside0.mk hb0
  have HBLK := Aside0.mk hblk
  have HSZ := Aside0.mk hsz
  have HJ1 := Aside0.mk hk.1
  have HP1 := Aside0.mk (show ¬ P W1 W.heap.size from fun h => by have := HI.out.lt q W _ HJ.out ((hk.2 _).1 h); omega)
  have HA1 := Aside0.mk (show ∀ b, A = some b → ¬ P W1 b.block ∧ b.block < W1.heap.size from fun b hb => ⟨fun h => (HA.out b hb).1 ((hk.2 _).1 h), Nat.lt_of_lt_of_le (HA.out b hb).2 hb0.size⟩)
  have HC1 := Aside0.mk (Kd.C_below HC.out hb0)
  clear hb0 hblk hsz hk
  go_loopg [20] n (fun gg s20 wr => ∃ x : Nat, s20 = .int .i64 x ∧ Aside0 (x + gg = n) ∧ Aside0 (J (runL step go (srchTo n r cur t s x) q).1 wr) ∧ Aside0 ((runL step go (srchTo n r cur t s x) q).2 = true) ∧ Aside0 (Fr (fun i => ¬ P W1 i ∧ i < W1.heap.size) W1 wr) ∧ Aside0 (∀ i, P wr i → P W1 i ∨ W1.heap.size ≤ i))
  case atStart => exact ⟨0, rfl, ⟨by omega⟩, HJ1, ⟨rfl⟩, ⟨Fr.refl _ _⟩, ⟨fun i h => .inl h⟩⟩
  case round =>
    obtain ⟨x, rfl, HX, HJX, HTX, HF, HPX⟩ := hrel
    obtain ⟨wo, rfl⟩ : ∃ wo : World, wo = wr := ⟨wr, rfl⟩
    have HSC := Aside0.mk (srchTo_succ n r cur t s x)
    by_cases hlt : x < n
    · have hltz : (x : Int) < (n : Int) := by omega
      have HRA := Aside0.mk (show runL step go (srchTo n r cur t s (x + 1)) q = runL step go (match addS n cur t s x with | none => [] | some p => srch n r (cur ++ [x]) p.1 p.2) (runL step go (srchTo n r cur t s x) q).1 from by rw [HSC.out, runL_app, HTX.out, if_pos rfl])
      generalize hqx : (runL step go (srchTo n r cur t s x) q).1 = qx at HJX HRA
      clear hqx
      have hblk := (HF.out.block W.heap.size ⟨HP1.out, by have := HSZ.out; omega⟩).trans HBLK.out
      obtain ⟨q0, q1, q2, q3⟩ := four_cells hblk
      have HCW := Aside0.mk (C_fr HC1.out (fun b hb => HA1.out b hb) HF.out)
      have hadd := add_calls (n := n) (cur := cur) (t := t) (s := s) (x := x) (A := A) (c := c) (W := wo) hn hn2 hlt HT.out HS.out HCUR.out (by have := HCL.out; omega) HCW.out HCAP.out
      rw [HL.out] at hadd
      have HADD := Aside0.mk hadd
      clear hblk hadd
      cases ho : addS n cur t s x with
      | none =>
        rw [ho] at HADD HRA
        clear ho
        go_wp2_with fail
        refine HADD.out.mono ?_
        rintro e w1 ⟨hb1, A9, l9, c9, t9, s9, rfl⟩
        have HB1 := Aside0.mk (below_alloc hb1 (.cells #[.int .i64 (n : Int), .slice A9 l9 c9, .int .i64 t9, .int .i64 s9] 74))
        clear hb1
        go_wp2
        have hk := HI.out.keep qx wo _ HJX.out HB1.out
        go_roundg (gk - 1)
        case measure => have := HX.out; omega
        case rel =>
          refine ⟨x + 1, by go_num, ⟨by have := HX.out; omega⟩, ⟨by rw [HRA.out]; exact hk.1⟩, ⟨by rw [HRA.out]; rfl⟩, ⟨HF.out.trans (Fr.of_below HB1.out (fun i hi => Nat.lt_of_lt_of_le hi.2 HF.out.size))⟩, ⟨fun i hi => HPX.out i ((hk.2 i).1 hi)⟩⟩
      | some p =>
        obtain ⟨t2, s2⟩ := p
        have HLT := Aside0.mk (addS_lt hlt HT.out HS.out ho)
        rw [ho] at HADD HRA
        clear ho
        obtain ⟨L1, hL1⟩ : ∃ L1, (nums (cur ++ [x])).length = L1 := ⟨_, rfl⟩
        have HL1 := Aside0.mk hL1
        clear hL1
        go_wp2_with fail
        refine HADD.out.mono ?_
        rintro e w1 ⟨hb1, A9, c9, rfl, hR9⟩
        have hRC := Kd.R_reads' hR9
        have hb2 := below_alloc hb1 (.cells #[.int .i64 (n : Int), .slice A9 L1 c9, .int .i64 (t2 : Int), .int .i64 (s2 : Int)] 74)
        have hk := HI.out.keep qx wo _ HJX.out hb2
        have hrun := HIH.out x t2 s2 qx A9 c9 (w1.alloc (.cells #[.int .i64 (n : Int), .slice A9 L1 c9, .int .i64 (t2 : Int), .int .i64 (s2 : Int)] 74)) hlt HLT.out.1 HLT.out.2 hk.1 hRC.2.1 (Kd.C_alloc hRC.2.2 _) (fun b hb => ⟨fun h => by
          have h1 := HI.out.lt qx wo _ HJX.out ((hk.2 _).1 h)
          have h2 := Kd.R_base hR9 b.block (by rw [hb]; rfl)
          omega, by
          have h2 := Kd.R_lt hR9 b.block (by rw [hb]; rfl)
          rw [World.size_alloc]; omega⟩)
        unfold AllT at hrun
        rw [HL1.out] at hrun ⊢
        have HRUN := Aside0.mk hrun
        have HB2 := Aside0.mk hb2
        clear hb1 hR9 hRC hb2 hk hrun
        go_wp2_with fail
        refine HRUN.out.mono ?_
        rintro e w3 hp
        have h := SPost.below HI.out HJX.out HB2.out hp
        rw [← HRA.out] at h
        obtain ⟨rfl, h2, h3, h4⟩ := h
        have H2 := Aside0.mk h2
        have H3 := Aside0.mk (HF.out.trans ⟨h3.os, h3.tape, h3.output, h3.size, fun i hi => h3.block i ⟨fun h => (HPX.out i h).elim hi.1 (fun h => by have := hi.2; omega), Nat.lt_of_lt_of_le hi.2 HF.out.size⟩⟩)
        have H4 := Aside0.mk (show ∀ i, P w3 i → P W1 i ∨ W1.heap.size ≤ i from fun i hi => by
          rcases h4 i hi with h | h
          · exact HPX.out i h
          · exact .inr (Nat.le_trans HF.out.size h))
        clear hp h2 h3 h4
        cases hgo : (runL step go (srchTo n r cur t s (x + 1)) q).2 with
        | true =>
          have HGO := Aside0.mk hgo
          clear hgo
          go_wp2
          go_roundg (gk - 1)
          case measure => have := HX.out; omega
          case rel => exact ⟨x + 1, by go_num, ⟨by have := HX.out; omega⟩, H2, HGO, H3, H4⟩
        | false =>
          have HGO := Aside0.mk hgo
          have HST := Aside0.mk (srchTo_stop step go hgo hlt)
          clear hgo
          go_wp2
          go_ret
          rw [HST.out]
          exact SPost.below HI.out HJ.out HB0.out ⟨by rw [HGO.out]; rfl, H2.out, H3.out, H4.out⟩
    · have hxn : x = n := by have := HX.out; omega
      have HXN := Aside0.mk hxn
      clear hxn
      have hltz : ¬ (x : Int) < (n : Int) := by omega
      go_wp2
      go_ret
      have e := HXN.out
      have h1 := HJX.out
      have h2 := HTX.out
      rw [e] at h1 h2
      exact SPost.below HI.out HJ.out HB0.out ⟨by rw [h2]; rfl, h1, HF.out, HPX.out⟩
theorem all_calls (eg : ∀ args w, (callFunc g args).run Try.prog w = .ok (.enter g args) w) (hI : SInter P J) (hM : MoreS n g lb P J step go) (hn : 1 ≤ n) (hn2 : n ≤ 40) : ∀ (r : Nat) {cur : List Nat} {t s : Nat} {q : σ} {A : Option Addr} {c : Nat} {W : World}, cur.length + r = n → (∀ y ∈ cur, y < n) → t < 2 ^ n → s < 2 ^ n → J q W → (nums cur).length ≤ c → Kd.C (Kd.int .i64) W A (nums cur).length (nums cur) → (∀ b, A = some b → ¬ P W b.block ∧ b.block < W.heap.size) →
    AllT n g lb P J cur t s q A c W (runL step go (srch n r cur t s) q) := by
  intro r
  induction r with
  | zero => intro cur t s q A c W hc hcur _ _ hJ hcap hC hA; exact all_end eg hI hM (by omega) hcur hJ hcap hC hA
  | succ r ih =>
    intro cur t s q A c W hc hcur ht hs hJ hcap hC hA
    exact all_more hI r hn hn2 hc hcur ht hs hJ hcap hC hA (fun x t' s' q A c W hx ht hs hJ hcap hC hA => ih (by rw [List.length_append, List.length_singleton]; omega) (fun y hy => by
      rcases List.mem_append.1 hy with h | h
      · exact hcur y h
      · rw [List.mem_singleton] at h; omega) ht hs hJ hcap hC hA)
end

end Go.Proofs.Ytpfjnpbcnlbhaaa.P
namespace Go.Proofs.Ytpfjnpbcnlbhaaa.P
open Go.RowKit Go.Proofs.YtpfjnpbcnlbhaaaW.PrintWords Go.Proofs.YtpfjnpbcnlbhaaaW.PrintLast Go.Proofs.YtpfjnpbcnlbhaaaW.PrintMore
attribute [local go_sem] max2_int min2_int max_two min_two max_three min_three max_four min_four   -- for this text's walks alone
set_option linter.unusedVariables false
set_option linter.unusedSimpArgs false

/-! rows.search.first: the first row that begins so -/
def optL (o : Option (List Nat)) : List Int := nums (o.getD [])
structure FstJ (S : Nat) (q : Option (List Nat)) (W : World) : Prop where
  c : ∃ A c, W.cell? ⟨S, 0, none⟩ = some (.slice A (optL q).length c) ∧ (optL q).length ≤ c ∧ Kd.C (Kd.int .i64) W A (optL q).length (optL q) ∧ A.isNone = q.isNone ∧ ∀ b, A = some b → b.block < W.heap.size
  f : W.frozen? ⟨S, 0, none⟩ = false
theorem fst_inter (S : Nat) : SInter (fun _ i => i = S) (FstJ S) := by
  refine ⟨fun q A B h hb => ⟨?_, fun i => Iff.rfl⟩, fun q A i h hp => ?_⟩
  · obtain ⟨⟨Ad, c, h1, h2, h3, h4, h5⟩, hf⟩ := h
    have hl : S < A.heap.size := World.block_lt_of_cell? A _ h1
    exact ⟨⟨Ad, c, (hb.cell (p := ⟨S, 0, none⟩) hl).trans h1, h2, Kd.C_below h3 hb, h4, fun b e => Nat.lt_of_lt_of_le (h5 b e) hb.size⟩, (hb.frozen (p := ⟨S, 0, none⟩) hl).trans hf⟩
  · obtain ⟨⟨Ad, c, h1, _⟩, _⟩ := h
    subst hp
    exact World.block_lt_of_cell? A _ h1
set_option maxHeartbeats 2000000 in
set_option maxRecDepth 100000 in
theorem first1_more (n S : Nat) (hn : 1 ≤ n) : MoreS n 72 #[.pointer (some ⟨S, 0, none⟩)] (fun _ i => i = S) (FstJ S) (fun _ x => some x) (fun _ _ => false) := by
  intro q x A c W hJ hx hxr hc hC hA
  obtain ⟨⟨A0, c0, h1, h2, h3, h4, h5⟩, hf⟩ := hJ
  obtain ⟨L0, hL0⟩ : ∃ L0, (optL q).length = L0 := ⟨_, rfl⟩
  rw [hL0] at h1
  have hS : S < W.heap.size := World.block_lt_of_cell? W _ h1
  have HC := Aside0.mk hC
  have HA := Aside0.mk hA
  have HCAP := Aside0.mk hc
  have HX := Aside0.mk hx
  have HS := Aside0.mk hS
  have H1 := Aside0.mk h1
  have HF := Aside0.mk hf
  show Calls Try.prog 72 #[.slice A (nums x).length c, .pointer (some ⟨S, 0, none⟩)] W _
  obtain ⟨L, hL⟩ : ∃ L, (nums x).length = L := ⟨_, rfl⟩
  have HL := Aside0.mk hL
  rw [hL]
  clear hC hA hc hx hS h2 h3 h4 h5 hL hL0
  go_enter Try.func72, Try.ntmps72
  go_wp2
  go_ret
  have hfr : Fr (fun i => ¬ i = S ∧ i < W.heap.size) W (W.setCell ⟨S, 0, none⟩ (.slice A L c)) := Fr.setCell _ _ (fun h => h.1 rfl)
  have hLx : (optL (some x)).length = L := HL.out
  refine ⟨rfl, ⟨⟨A, c, ?_, ?_, ?_, ?_, ?_⟩, ?_⟩, hfr, fun i h => .inl h⟩
  · rw [hLx]; exact World.cell?_setCell_same' _ _ _ (by rw [H1.out]; rfl)
  · rw [hLx, ← HL.out]; exact HCAP.out
  · exact C_fr HC.out (fun b hb => HA.out b hb) hfr
  · obtain ⟨ad, e, _⟩ := Kd.at_int HC.out 0 (by omega) (by rw [nums_length, HX.out]; omega)
    rw [e]; rfl
  · intro b hb; have := (HA.out b hb).2; rw [World.size_setCell]; exact this
  · rw [World.frozen?_setCell]; exact HF.out
theorem runL_first : ∀ (L : List (List Nat)), (runL (fun (_ : Option (List Nat)) x => some x) (fun _ _ => false) L none).1 = L.head?
  | [] => rfl
  | x :: L => rfl
set_option maxHeartbeats 4000000 in
set_option maxRecDepth 100000 in
theorem first_calls {n : Nat} (hn : 1 ≤ n) (hn2 : n ≤ 40) {cur : List Nat} {t s : Nat} {A : Option Addr} {c : Nat} {W : World} {o : Option (List Nat)} (r : Nat) (hc : cur.length + r = n) (hcur : ∀ y ∈ cur, y < n) (ht : t < 2 ^ n) (hs : s < 2 ^ n) (hcap : (nums cur).length ≤ c) (hC : Kd.C (Kd.int .i64) W A (nums cur).length (nums cur)) (hA : ∀ b, A = some b → b.block < W.heap.size) (ho : (srch n r cur t s).head? = o) (hol : (optL o).length ≤ 1000) :
    Calls Try.prog 62 #[.agg #[.int .i64 (n : Int), .slice A (nums cur).length c, .int .i64 (t : Int), .int .i64 (s : Int)]] W fun e W' => ∃ v, e = .returned (.tuple #[v, .int .i64 (if o = none then 4 else 0)]) ∧ Kd.R (Kd.int .i64) 3 W' W.heap.size (fun _ => True) v (optL o) ∧ Below W.heap.size W W' := by
  have hmf : ∀ (fn : Fn) (first cap : Array Value) (w : World), (Instr.makeFunc fn first cap).run Try.prog w = .ok (.func fn first cap) w := fun _ _ _ _ => rfl
  obtain ⟨L, hL⟩ : ∃ L, (nums cur).length = L := ⟨_, rfl⟩
  have HL := Aside0.mk hL
  obtain ⟨W2, hW2⟩ : ∃ W2, (W.alloc (.cells #[.int .i64 (n : Int), .slice A L c, .int .i64 (t : Int), .int .i64 (s : Int)] 74)).alloc (.cells #[.slice none 0 0] 22) = W2 := ⟨_, rfl⟩
  have hb2 : Below W.heap.size W W2 := by rw [← hW2]; exact below_alloc (below_alloc (Below.refl _ _) _) _
  have hz2 : W2.heap.size = W.heap.size + 2 := by rw [← hW2]; simp [World.size_alloc]
  have hnew := new_cell (W.alloc (.cells #[.int .i64 (n : Int), .slice A L c, .int .i64 (t : Int), .int .i64 (s : Int)] 74)) (.slice none 0 0) 22
  rw [hW2, World.size_alloc] at hnew
  have hJ : FstJ (W.heap.size + 1) none W2 := ⟨⟨none, 0, hnew.1, Nat.le_refl _, (Kd.R_reads' (Kd.R_nil (Kd.int .i64) 3 W2 0 (fun _ => True))).2.2, rfl, fun b hb => by cases hb⟩, hnew.2⟩
  have hrun := all_calls (P := fun _ i => i = W.heap.size + 1) (enters_of Try.func72 (by kernel_rfl) rfl) (fst_inter (W.heap.size + 1)) (first1_more n (W.heap.size + 1) hn) hn hn2 r hc hcur ht hs hJ hcap (Kd.C_below hC hb2) (fun b hb => ⟨fun h => by have := hA b hb; omega, Nat.lt_of_lt_of_le (hA b hb) hb2.size⟩)
  unfold AllT at hrun
  rw [hL] at hrun ⊢
  have HRUN := Aside0.mk hrun
  have HW2 := Aside0.mk hW2
  have HB2 := Aside0.mk hb2
  have HZ2 := Aside0.mk hz2
  have HO := Aside0.mk ho
  have HOL := Aside0.mk hol
  have q22 : ∀ (w : World) (a : Option Addr) (n c n' c' : Nat), (binOp .eql 22 (.slice a n c) (.slice none n' c')).run Try.prog w = .ok (.bool a.isNone) w := fun w a n c n' c' => Lib.run_eql_slice_nil w _ _ a n c n' c' Try.underlying22
  clear hrun hW2 hb2 hz2 hnew hJ ho hL hC hA hcap hs ht hcur hc hol
  go_enter Try.func62, Try.ntmps62
  go_wp2_with fail
  rw [HW2.out]
  refine HRUN.out.mono ?_
  rintro e w3 ⟨rfl, hj3, hf3, -⟩
  rw [runL_first, HO.out] at hj3
  have hb3 : Below W.heap.size W w3 := HB2.out.trans (hf3.below (B := W.heap.size) (fun k hk => ⟨by omega, by have := HZ2.out; omega⟩))
  obtain ⟨⟨Ad, cd, h1, h2, h3, h4, h5⟩, hfz⟩ := hj3
  have HB3 := Aside0.mk hb3
  clear hf3 hb3
  cases o with
  | none =>
    have hAd : Ad = none := by
      cases Ad with
      | none => rfl
      | some _ => cases h4
    subst hAd
    have e0 : (optL none).length = 0 := rfl
    rw [e0] at h1
    clear h2 h3 h4 h5 hfz e0
    go_wp2
    go_ret2
    exact ⟨_, rfl, Kd.R_nil _ _ _ _ _, HB3.out⟩
  | some l =>
    obtain ⟨ad, hAd⟩ : ∃ ad, Ad = some ad := by
      cases Ad with
      | none => cases h4
      | some ad => exact ⟨ad, rfl⟩
    subst hAd
    have HCL := Aside0.mk (slices_Clone_int_int.calls (some ad) cd (optL (some l)) (optL (some l)) w3 h3 h2 (by unfold slices_Clone_int_int.f; rw [if_pos (by have := HOL.out; omega)]))
    generalize hll : (optL (some l)).length = ll at h1 HCL
    clear h2 h3 h4 h5 hfz hll
    go_wp2_with fail
    refine HCL.out.mono ?_
    rintro e w4 ⟨v, rfl, hr4, hb4⟩
    have HR4 := Aside0.mk hr4
    have HB4 := Aside0.mk hb4
    clear hr4 hb4
    go_wp2
    go_ret2
    exact ⟨_, rfl, Kd.R_lower HR4.out HB3.out.size, HB3.out.trans (HB4.out.mono HB3.out.size)⟩

end Go.Proofs.Ytpfjnpbcnlbhaaa.P
namespace Go.Proofs.Ytpfjnpbcnlbhaaa.P
open Go.RowKit Go.Proofs.YtpfjnpbcnlbhaaaW.PrintWords Go.Proofs.YtpfjnpbcnlbhaaaW.PrintLast Go.Proofs.YtpfjnpbcnlbhaaaW.PrintMore
attribute [local go_sem] max2_int min2_int max_two min_two max_three min_three max_four min_four   -- for this text's walks alone
set_option linter.unusedVariables false
set_option linter.unusedSimpArgs false

/-! ### rows_isLength: function 60 -/
def rows_isLength.f (a0 : Int) : Option (Bool) := if a0 ≥ 2 then (some (decide (a0 ≤ 10))) else (some false)
set_option maxHeartbeats 8000000 in
set_option maxRecDepth 100000 in
theorem rows_isLength.calls (a0 : Int) (r : Bool) (w : World) (h : rows_isLength.f a0 = some r) :
    Calls Try.prog 60 #[.int .i64 a0] w fun e w' => e = .returned (.bool r) ∧ Drawn0 w w' := by
  have H : (if a0 ≥ 2 then (some (decide (a0 ≤ 10))) else (some false)) = some r := h
  clear h
  by_cases c2 : a0 ≥ 2
  · rw [if_pos c2] at H
    have c2b0 : decide (2 ≤ a0) = true := decide_eq_true c2
    clear c2
    obtain rfl := Option.some.inj H
    go_enter Try.func60, Try.ntmps60
    go_wp2
    go_ret
    exact ⟨by first | rfl | (simp; done) | (simp [*]; done), by repeat (first | exact Drawn0.refl _ | apply Drawn0.step)⟩
  · rw [if_neg c2] at H
    have c2b0 : decide (2 ≤ a0) = false := decide_eq_false c2
    clear c2
    obtain rfl := Option.some.inj H
    go_enter Try.func60, Try.ntmps60
    go_wp2
    go_ret
    exact ⟨by first | rfl | (simp; done) | (simp [*]; done), by repeat (first | exact Drawn0.refl _ | apply Drawn0.step)⟩

end Go.Proofs.Ytpfjnpbcnlbhaaa.P
namespace Go.Proofs.Ytpfjnpbcnlbhaaa.P
open Go.RowKit Go.Proofs.YtpfjnpbcnlbhaaaW.PrintWords Go.Proofs.YtpfjnpbcnlbhaaaW.PrintLast Go.Proofs.YtpfjnpbcnlbhaaaW.PrintMore
attribute [local go_sem] max2_int min2_int max_two min_two max_three min_three max_four min_four   -- for this text's walks alone
set_option linter.unusedVariables false
set_option linter.unusedSimpArgs false

/-! rows.Fill: the first row that begins so -/
/-- whether numbers are different tones -/
def chkT (n : Nat) : List Int → Nat → Option Nat
  | [], t => some t
  | x :: r, t => if x < 0 ∨ (n : Int) ≤ x then none else if t.testBit x.toNat then none else chkT n r (t ||| 2 ^ x.toNat)
def addAll (n : Nat) : List Nat → Nat → Nat → List Nat → Option (Nat × Nat)
  | _, t, s, [] => some (t, s)
  | cur, t, s, x :: r => match addS n cur t s x with
    | none => none
    | some p => addAll n (cur ++ [x]) p.1 p.2 r
def toNats (l : List Int) : List Nat := l.map Int.toNat
def fillO (n : Nat) (b : List Nat) : Option (List Nat) := match addAll n [] 0 0 b with
  | none => none
  | some p => (srch n (n - b.length) b p.1 p.2).head?
def rows_Fill.f (l0 : List Int) (a1 : Int) : Option (List Int × Int) :=
  if 2 ≤ a1 ∧ a1 ≤ 10 ∧ (l0.length : Int) ≤ a1 ∧ (chkT a1.toNat l0 0).isSome = true then some (optL (fillO a1.toNat (toNats l0)), if fillO a1.toNat (toNats l0) = none then 4 else 0) else some ([], 2)
theorem isLength_f (a : Int) : rows_isLength.f a = some (decide (2 ≤ a ∧ a ≤ 10)) := by
  unfold rows_isLength.f
  by_cases h1 : 2 ≤ a
  · by_cases h2 : a ≤ 10
    · simp [h1, h2]
    · simp [h1, h2]
  · simp [h1]
set_option maxHeartbeats 8000000 in
set_option maxRecDepth 100000 in
theorem fill_bad (A0 : Option Addr) (c0 L : Nat) (a1 : Int) (w : World) (hn : ¬ (2 ≤ a1 ∧ a1 ≤ 10)) :
    Calls Try.prog 33 #[.slice A0 L c0, .int .i64 a1] w fun e w' => ∃ v0_ : Value, e = .returned (.tuple #[v0_, .int .i64 2]) ∧ Kd.R (Kd.int .i64) 3 w' w.heap.size (fun _ => True) v0_ [] ∧ Below w.heap.size w w' := by
  have hlenF : rows_isLength.f a1 = some false := by rw [isLength_f, decide_eq_false hn]
  have HLEN := Aside0.mk hlenF
  clear hlenF hn
  go_enter Try.func33, Try.ntmps33
  go_wp2_with fail
  refine (rows_isLength.calls _ _ _ HLEN.out).mono ?_
  rintro e w2 ⟨rfl, hd⟩
  obtain ⟨q, rfl⟩ := hd
  go_wp2
  go_ret2
  exact ⟨_, rfl, Kd.R_nil _ _ _ _ _, pw_below_drewN (Below.refl _ _) q⟩
set_option maxHeartbeats 8000000 in
set_option maxRecDepth 100000 in
theorem fill_long (A0 : Option Addr) (c0 L : Nat) (n : Nat) (w : World) (hn1 : 2 ≤ n) (hn2 : n ≤ 10) (hL : n < L) :
    Calls Try.prog 33 #[.slice A0 L c0, .int .i64 (n : Int)] w fun e w' => ∃ v0_ : Value, e = .returned (.tuple #[v0_, .int .i64 2]) ∧ Kd.R (Kd.int .i64) 3 w' w.heap.size (fun _ => True) v0_ [] ∧ Below w.heap.size w w' := by
  have hlenF : rows_isLength.f (n : Int) = some true := by rw [isLength_f, decide_eq_true (by omega)]
  have HLEN := Aside0.mk hlenF
  have hLz : (n : Int) < (L : Int) := by omega
  clear hlenF
  go_enter Try.func33, Try.ntmps33
  go_wp2_with fail
  refine (rows_isLength.calls _ _ _ HLEN.out).mono ?_
  rintro e w2 ⟨rfl, hd⟩
  obtain ⟨q, rfl⟩ := hd
  go_wp2
  go_ret2
  exact ⟨_, rfl, Kd.R_nil _ _ _ _ _, pw_below_drewN (Below.refl _ _) q⟩
theorem chk_drop {n : Nat} {l : List Int} {i : Nat} (h : i < l.length) (t : Nat) : chkT n (l.drop i) t = if rd l (i : Int) < 0 ∨ (n : Int) ≤ rd l (i : Int) then none else if t.testBit (rd l (i : Int)).toNat then none else chkT n (l.drop (i + 1)) (t ||| 2 ^ (rd l (i : Int)).toNat) := by
  rw [List.drop_eq_getElem_cons h, chkT, rd_get h]
/-- what comes behind both loops' ends -/
def FillPost (w : World) (r1 : List Int) (r2 : Int) (e : Ending) (w' : World) : Prop := ∃ v0_ : Value, e = .returned (.tuple #[v0_, .int .i64 r2]) ∧ Kd.R (Kd.int .i64) 3 w' w.heap.size (fun _ => True) v0_ r1 ∧ Below w.heap.size w w'
theorem chk_good {n : Nat} : ∀ (l : List Int) (t : Nat), (chkT n l t).isSome = true → ∀ x ∈ l, 0 ≤ x ∧ x < n
  | [], _, _, x, hx => by cases hx
  | y :: l, t, h, x, hx => by
    rw [chkT] at h
    split at h
    · cases h
    · split at h
      · cases h
      · rcases List.mem_cons.1 hx with rfl | hx
        · omega
        · exact chk_good l _ h x hx
theorem nums_toNats : ∀ (l : List Int), (∀ x ∈ l, 0 ≤ x) → nums (toNats l) = l
  | [], _ => rfl
  | x :: l, h => by
    have h1 := h x (by simp)
    have h2 := nums_toNats l (fun y hy => h y (by simp [hy]))
    unfold nums toNats at h2 ⊢
    simp only [List.map_cons, List.cons.injEq]
    exact ⟨by show ((x.toNat : Nat) : Int) = x; omega, h2⟩
theorem put_box (W : World) (T : Nat) (y0 y1 y2 y3 : Value) {x0 x1 x2 x3 : Value} {t : TypeId} (h : W.heap[T]? = some (.cells #[x0, x1, x2, x3] t)) :
    ((((W.setCell ⟨T, 0, none⟩ y0).setCell ⟨T, 1, none⟩ y1).setCell ⟨T, 2, none⟩ y2).setCell ⟨T, 3, none⟩ y3).heap[T]? = some (.cells #[y0, y1, y2, y3] t) := by
  have hlt : T < W.heap.size := (Array.getElem?_eq_some_iff.1 h).1
  have one : ∀ (V : World) (cs : Array Value) (i : Nat) (y : Value), V.heap[T]? = some (.cells cs t) → (V.setCell ⟨T, i, none⟩ y).heap[T]? = some (.cells (cs.setIfInBounds i y) t) := by
    intro V cs i y hV
    unfold World.setCell
    simp [Array.getElem?_modify, hV]
  have h1 := one W _ 0 y0 h
  have h2 := one _ _ 1 y1 h1
  have h3 := one _ _ 2 y2 h2
  have h4 := one _ _ 3 y3 h3
  rw [h4]
  rfl
theorem srch_len {n : Nat} : ∀ (r : Nat) (cur : List Nat) (t s : Nat), ∀ l ∈ srch n r cur t s, l.length = cur.length + r
  | 0, cur, _, _, l, h => by rw [srch, List.mem_singleton] at h; subst h; rfl
  | r + 1, cur, t, s, l, h => by
    rw [srch, List.mem_flatMap] at h
    obtain ⟨x, _, h⟩ := h
    split at h
    · cases h
    · have := srch_len r _ _ _ l h
      rw [this, List.length_append, List.length_singleton]; omega
theorem optL_len {n r : Nat} {cur : List Nat} {t s : Nat} (h : cur.length + r = n) : (optL (srch n r cur t s).head?).length ≤ n := by
  cases ho : (srch n r cur t s).head? with
  | none => exact Nat.zero_le _
  | some l =>
    have := srch_len r cur t s l (List.mem_of_head? ho)
    show (nums l).length ≤ n
    rw [nums_length]; omega
set_option maxHeartbeats 8000000 in
set_option maxRecDepth 100000 in
theorem fill_walk (A0 : Option Addr) (c0 : Nat) (l0 : List Int) (n : Nat) (w : World) (hn1 : 2 ≤ n) (hn2 : n ≤ 10) (hr0 : Kd.C (Kd.int .i64) w A0 l0.length l0) (hc0 : l0.length ≤ c0) (hL : l0.length ≤ n) (r1 : List Int) (r2 : Int)
    (hres : if (chkT n l0 0).isSome = true then r1 = optL (fillO n (toNats l0)) ∧ r2 = (if fillO n (toNats l0) = none then 4 else 0) else r1 = [] ∧ r2 = 2) :
    Calls Try.prog 33 #[.slice A0 l0.length c0, .int .i64 (n : Int)] w (FillPost w r1 r2) := by
  have hlenF : rows_isLength.f (n : Int) = some true := by rw [isLength_f, decide_eq_true (by omega)]
  have HLEN := Aside0.mk hlenF
  have HC := Aside0.mk hr0
  have HRES := Aside0.mk hres
  obtain ⟨L, hLL⟩ : ∃ L, l0.length = L := ⟨_, rfl⟩
  have HL := Aside0.mk hLL
  rw [hLL] at hL hc0 ⊢
  have hLz : ¬ (n : Int) < (L : Int) := by omega
  have hLd : decide (n < L) = false := decide_eq_false (by omega)
  have hLe : decide ((n : Int) < (L : Int)) = false := decide_eq_false (by omega)
  clear hlenF hr0 hres hLL
  go_enter Try.func33, Try.ntmps33
  go_wp2_with fail
  refine (rows_isLength.calls _ _ _ HLEN.out).mono ?_
  rintro e w2 ⟨rfl, hd⟩
  obtain ⟨q, rfl⟩ := hd
  have hb0 : Below w.heap.size w (w.drewN q) := pw_below_drewN (Below.refl _ _) q
  generalize w.drewN q = W0 at hb0 ⊢
  have HB0 := Aside0.mk hb0
  have HCW := Aside0.mk (Kd.C_below HC.out hb0)
  clear hb0
  go_wp2
  go_loopg [6, 25] L (fun gg s6 s25 wr => ∃ (i t : Nat), s25 = .int .i64 i ∧ s6 = .int .i64 t ∧ wr = W0 ∧ Aside0 (i + gg = L) ∧ Aside0 (t < 2 ^ n) ∧ Aside0 (chkT n l0 0 = chkT n (l0.drop i) t))
  case atStart => exact ⟨0, 0, rfl, rfl, rfl, ⟨by omega⟩, ⟨Nat.two_pow_pos n⟩, ⟨by rw [List.drop_zero]⟩⟩
  case round =>
    obtain ⟨i, t, rfl, rfl, rfl, HI, HT, HK⟩ := hrel
    by_cases hi : i < L
    · have hiz : (i : Int) < (L : Int) := by omega
      have hi0 : (0 : Int) ≤ (i : Int) := by omega
      have HD := Aside0.mk (chk_drop (n := n) (l := l0) (i := i) (by rw [HL.out]; exact hi) t)
      obtain ⟨ad, e, hcell⟩ := Kd.at_int HCW.out (i : Int) (by omega) (by rw [HL.out]; exact hiz)
      rw [Int.toNat_natCast] at hcell
      subst e
      generalize rd l0 (i : Int) = x at hcell HD
      by_cases hx0 : x < 0
      · have HBAD := Aside0.mk (show chkT n l0 0 = none by rw [HK.out, HD.out, if_pos (.inl hx0)])
        have hxb : decide (x < 0) = true := decide_eq_true hx0
        clear hx0
        go_wp2
        go_ret2
        have h := HRES.out
        rw [HBAD.out, if_neg (by decide)] at h
        obtain ⟨rfl, rfl⟩ := h
        exact ⟨_, rfl, Kd.R_nil _ _ _ _ _, HB0.out⟩
      · have hxb : decide (x < 0) = false := decide_eq_false hx0
        by_cases hxn : (n : Int) ≤ x
        · have HBAD := Aside0.mk (show chkT n l0 0 = none by rw [HK.out, HD.out, if_pos (.inr hxn)])
          have hxb2 : decide ((n : Int) ≤ x) = true := decide_eq_true hxn
          clear hx0 hxn
          go_wp2
          go_ret2
          have h := HRES.out
          rw [HBAD.out, if_neg (by decide)] at h
          obtain ⟨rfl, rfl⟩ := h
          exact ⟨_, rfl, Kd.R_nil _ _ _ _ _, HB0.out⟩
        · have hxb2 : decide ((n : Int) ≤ x) = false := decide_eq_false hxn
          rw [if_neg (fun h => h.elim hx0 hxn)] at HD
          obtain ⟨y, rfl⟩ : ∃ y : Nat, x = (y : Int) := ⟨x.toNat, by omega⟩
          rw [Int.toNat_natCast] at HD
          have hyn : y < n := by omega
          have hy64 : y ≤ 64 := by omega
          obtain ⟨sh, hsh, hbit⟩ := bit_div (a := t) (x := y) (Nat.lt_trans HT.out (Nat.pow_lt_pow_right (by omega) (by omega))) (by omega)
          cases hb : t.testBit y with
          | true =>
            rw [hb, if_pos rfl] at hbit HD
            have HBAD := Aside0.mk (show chkT n l0 0 = none by rw [HK.out, HD.out])
            clear hb hx0 hxn
            go_wp2
            go_ret2
            have h := HRES.out
            rw [HBAD.out, if_neg (by decide)] at h
            obtain ⟨rfl, rfl⟩ := h
            exact ⟨_, rfl, Kd.R_nil _ _ _ _ _, HB0.out⟩
          | false =>
            rw [hb, if_neg (by decide)] at hbit HD
            obtain ⟨p2, b2, v1, v2, v3, hb2, hb2l⟩ := one_more (show n ≤ 62 by omega) HT.out hyn
            rw [hb2] at HD
            have HB2L := Aside0.mk hb2l
            clear hb hx0 hxn hb2 hb2l
            go_wp2
            go_roundg (gk - 1)
            case measure => have := HI.out; omega
            case rel => exact ⟨i + 1, b2, by go_num, rfl, rfl, ⟨by have := HI.out; omega⟩, HB2L, ⟨by rw [HK.out, HD.out]⟩⟩
    · have hiL : i = L := by have := HI.out; omega
      have HGOOD := Aside0.mk (show (chkT n l0 0).isSome = true by rw [HK.out, hiL, ← HL.out, List.drop_length]; rfl)
      have hiz : ¬ (i : Int) < (L : Int) := by omega
      clear hiL
      go_wp2
      obtain ⟨W0, hW0⟩ : ∃ W0, W0 = wr := ⟨_, rfl⟩
      subst hW0
      obtain ⟨b, hb⟩ : ∃ b, toNats l0 = b := ⟨_, rfl⟩
      have hgood := chk_good l0 0 HGOOD.out
      have hnb : nums b = l0 := by rw [← hb]; exact nums_toNats l0 (fun x hx => (hgood x hx).1)
      have hbr : ∀ y ∈ b, y < n := fun y hy => by
        rw [← hb] at hy
        unfold toNats at hy
        obtain ⟨x, hx, rfl⟩ := List.mem_map.1 hy
        have := hgood x hx; omega
      have hbl : b.length = L := by rw [← nums_length, hnb]; exact HL.out
      have HNB := Aside0.mk hnb
      have HBR := Aside0.mk hbr
      have HBL := Aside0.mk hbl
      have hres := HRES.out
      rw [if_pos HGOOD.out, hb] at hres
      have HRS := Aside0.mk hres
      have hblk := World.alloc_heap_new W0 (.cells #[.int .i64 (n : Int), .slice none 0 0, .int .i64 0, .int .i64 0] 74)
      have hbw : Below W0.heap.size W0 (W0.alloc (.cells #[.int .i64 (n : Int), .slice none 0 0, .int .i64 0, .int .i64 0] 74)) := below_alloc (Below.refl _ _) _
      obtain ⟨S, hS⟩ : ∃ S, W0.heap.size = S := ⟨_, rfl⟩
      rw [hS] at hblk hbw ⊢
      have HS := Aside0.mk hS
      generalize W0.alloc (.cells #[.int .i64 (n : Int), .slice none 0 0, .int .i64 0, .int .i64 0] 74) = W3 at hblk hbw ⊢
      have HBLK := Aside0.mk hblk
      have HBW := Aside0.mk hbw
      clear hblk hbw hb hgood hnb hbr hbl hres HI HT HK hiz hS
      go_loopg [52] L (fun gg s52 wx => ∃ (i t s : Nat) (A : Option Addr) (c : Nat), s52 = .int .i64 i ∧ Aside0 (i + gg = L) ∧ Aside0 (Below S W0 wx) ∧ Aside0 (wx.heap[S]? = some (.cells #[.int .i64 (n : Int), .slice A (nums (b.take i)).length c, .int .i64 (t : Int), .int .i64 (s : Int)] 74)) ∧ Aside0 (Kd.C (Kd.int .i64) wx A (nums (b.take i)).length (nums (b.take i))) ∧ Aside0 ((nums (b.take i)).length ≤ c) ∧ Aside0 (∀ g, A = some g → g.block ≠ S ∧ g.block < wx.heap.size) ∧ Aside0 (t < 2 ^ n ∧ s < 2 ^ n) ∧ Aside0 (addAll n [] 0 0 b = addAll n (b.take i) t s (b.drop i)))
      case atStart => exact ⟨0, 0, 0, none, 0, rfl, ⟨by omega⟩, HBW, HBLK, ⟨(Kd.R_reads' (Kd.R_nil (Kd.int .i64) 3 W3 0 (fun _ => True))).2.2⟩, ⟨Nat.le_refl _⟩, ⟨fun g e => by cases e⟩, ⟨Nat.two_pow_pos n, Nat.two_pow_pos n⟩, ⟨by rw [List.drop_zero]; rfl⟩⟩
      case round =>
        obtain ⟨i, t, s, A, c, rfl, HI, HBX, HBOX, HCX, HCP, HAX, HTS, HK⟩ := hrel
        obtain ⟨wx, hwx⟩ : ∃ wx : World, wx = wr := ⟨_, rfl⟩
        subst hwx
        obtain ⟨q0, q1, q2, q3⟩ := four_cells HBOX.out
        by_cases hi : i < L
        · have hiz : (i : Int) < (L : Int) := by omega
          have hi0 : (0 : Int) ≤ (i : Int) := by omega
          obtain ⟨ad, e, hcell⟩ := Kd.at_int (Kd.C_below HCW.out (HBX.out.mono (by rw [HS.out]; exact Nat.le_refl _))) (i : Int) (by omega) (by rw [HL.out]; exact hiz)
          have hib : i < b.length := by rw [HBL.out]; exact hi
          rw [Int.toNat_natCast, show rd l0 (i : Int) = ((b[i] : Nat) : Int) by rw [← nums_get hib, HNB.out]] at hcell
          subst e
          have HDR := Aside0.mk (show b.drop i = b[i] :: b.drop (i + 1) from List.drop_eq_getElem_cons hib)
          have HTK := Aside0.mk (show b.take (i + 1) = b.take i ++ [b[i]] from (List.take_append_getElem hib).symm)
          have hxn : b[i] < n := HBR.out _ (List.getElem_mem hib)
          generalize b[i] = x at hcell HDR HTK hxn
          have hadd := add_calls (n := n) (cur := b.take i) (t := t) (s := s) (x := x) (A := A) (c := c) (W := wx) (by omega) (by omega) hxn HTS.out.1 HTS.out.2 (fun y hy => HBR.out y (List.mem_of_mem_take hy)) (by rw [List.length_take]; have := HBL.out; omega) HCX.out HCP.out
          have HK2 := Aside0.mk (show addAll n [] 0 0 b = match addS n (b.take i) t s x with | none => none | some p => addAll n (b.take i ++ [x]) p.1 p.2 (b.drop (i + 1)) by rw [HK.out, HDR.out, addAll])
          obtain ⟨L0, hL0⟩ : ∃ L0, (nums (b.take i)).length = L0 := ⟨_, rfl⟩
          rw [hL0] at hadd q1
          have HADD := Aside0.mk hadd
          clear hadd hL0 hib
          cases ho : addS n (b.take i) t s x with
          | none =>
            rw [ho] at HADD HK2
            clear ho
            go_wp2_with fail
            refine HADD.out.mono ?_
            rintro e w1 ⟨hb1, A9, l9, c9, t9, s9, rfl⟩
            have HB1 := Aside0.mk (below_alloc hb1 (.cells #[.int .i64 (n : Int), .slice A9 l9 c9, .int .i64 t9, .int .i64 s9] 74))
            clear hb1
            go_wp2
            go_ret2
            have hf : fillO n b = none := by unfold fillO; rw [HK2.out]
            obtain ⟨e1, e2⟩ := HRS.out
            rw [hf] at e1 e2
            rw [e1, e2, if_pos rfl]
            exact ⟨_, rfl, Kd.R_nil _ _ _ _ _, HB0.out.trans ((HBX.out.mono (by rw [← HS.out]; exact HB0.out.size)).trans (HB1.out.mono (Nat.le_trans HB0.out.size HBX.out.size)))⟩
          | some p =>
            obtain ⟨t2, s2⟩ := p
            have HLT := Aside0.mk (addS_lt hxn HTS.out.1 HTS.out.2 ho)
            rw [ho] at HADD HK2
            clear ho
            rw [← HTK.out] at HK2
            have HPOST := Aside0.mk (show AddPost n (b.take i) x wx (some (t2, s2)) = AddPost n (b.take i) x wx (some (t2, s2)) from rfl)
            obtain ⟨L1, hL1⟩ : ∃ L1, (nums (b.take i ++ [x])).length = L1 := ⟨_, rfl⟩
            have HL1 := Aside0.mk hL1
            clear hL1 HPOST
            go_wp2_with fail
            refine HADD.out.mono ?_
            rintro e w1 ⟨hb1, A9, c9, rfl, hR9⟩
            have hRC := Kd.R_reads' hR9
            have hSx : S < wx.heap.size := (Array.getElem?_eq_some_iff.1 HBOX.out).1
            have hbox1 := (hb1.block S hSx).trans HBOX.out
            have hbox2 := (Below.heap_alloc w1 (.cells #[.int .i64 (n : Int), .slice A9 L1 c9, .int .i64 (t2 : Int), .int .i64 (s2 : Int)] 74) S (Nat.lt_of_lt_of_le hSx hb1.size)).trans hbox1
            obtain ⟨m0, m1, m2, m3⟩ := four_cells hbox2
            have z0 := frozen_cells (i := 0) hbox2
            have z1 := frozen_cells (i := 1) hbox2
            have z2 := frozen_cells (i := 2) hbox2
            have z3 := frozen_cells (i := 3) hbox2
            have HPUT := Aside0.mk (put_box _ S (.int .i64 (n : Int)) (.slice A9 L1 c9) (.int .i64 (t2 : Int)) (.int .i64 (s2 : Int)) hbox2)
            have HB1 := Aside0.mk hb1
            have HR9 := Aside0.mk hR9
            have HRC := Aside0.mk hRC
            have HSX := Aside0.mk hSx
            rw [HL1.out]
            clear hb1 hR9 hRC hbox1 hbox2 hSx q0 q1 q2 q3
            go_wp2
            go_roundg (gk - 1)
            case measure => have := HI.out; omega
            case rel =>
              have hfr : Fr (fun j => j ≠ S ∧ j < w1.heap.size) w1 (((((w1.alloc (.cells #[.int .i64 (n : Int), .slice A9 L1 c9, .int .i64 (t2 : Int), .int .i64 (s2 : Int)] 74)).setCell ⟨S, 0, none⟩ (.int .i64 (n : Int))).setCell ⟨S, 1, none⟩ (.slice A9 L1 c9)).setCell ⟨S, 2, none⟩ (.int .i64 (t2 : Int))).setCell ⟨S, 3, none⟩ (.int .i64 (s2 : Int))) :=
                ((((Fr.alloc w1 _ (fun k hk => hk.2)).trans (Fr.setCell _ _ (fun h => h.1 rfl))).trans (Fr.setCell _ _ (fun h => h.1 rfl))).trans (Fr.setCell _ _ (fun h => h.1 rfl))).trans (Fr.setCell _ _ (fun h => h.1 rfl))
              have hA9 : ∀ g, A9 = some g → g.block ≠ S ∧ g.block < w1.heap.size := fun g hg => by
                have h1 := Kd.R_base HR9.out g.block (by rw [hg]; rfl)
                have h2 := Kd.R_lt HR9.out g.block (by rw [hg]; rfl)
                have := HSX.out
                exact ⟨by omega, h2⟩
              refine ⟨i + 1, t2, s2, A9, c9, by go_num, ⟨by have := HI.out; omega⟩, ⟨?_⟩, ⟨?_⟩, ⟨?_⟩, ⟨?_⟩, ⟨fun g hg => ⟨(hA9 g hg).1, Nat.lt_of_lt_of_le (hA9 g hg).2 hfr.size⟩⟩, HLT, HK2⟩
              · exact (HBX.out.trans ((below_alloc HB1.out _).mono (Nat.le_of_lt HSX.out))).setCell (p := ⟨S, 0, none⟩) (Nat.le_refl _) _ |>.setCell (p := ⟨S, 1, none⟩) (Nat.le_refl _) _ |>.setCell (p := ⟨S, 2, none⟩) (Nat.le_refl _) _ |>.setCell (p := ⟨S, 3, none⟩) (Nat.le_refl _) _
              · rw [HTK.out, HL1.out]; exact HPUT.out
              · rw [HTK.out]; exact C_fr HRC.out.2.2 hA9 hfr
              · rw [HTK.out]; exact HRC.out.2.1
        · have hiL : i = L := by have := HI.out; omega
          have hiz : ¬ (i : Int) < (L : Int) := by omega
          have hbt : b.take i = b := List.take_of_length_le (by rw [HBL.out, hiL]; exact Nat.le_refl _)
          have hfo : fillO n b = (srch n (n - b.length) b t s).head? := by
            unfold fillO; rw [HK.out, hbt, hiL, ← HBL.out, List.drop_length, addAll]
          have hrun := first_calls (n := n) (by omega) (by omega) (cur := b) (t := t) (s := s) (A := A) (c := c) (W := wx) (o := fillO n b) (n - b.length) (by have := HBL.out; omega) HBR.out HTS.out.1 HTS.out.2 (by have := HCP.out; rwa [hbt] at this) (by have := HCX.out; rwa [hbt] at this) (fun g hg => (HAX.out g hg).2) hfo.symm (by rw [hfo]; have := optL_len (n := n) (r := n - b.length) (cur := b) (t := t) (s := s) (by have := HBL.out; omega); omega)
          rw [hbt] at q1
          obtain ⟨L0, hL0⟩ : ∃ L0, (nums b).length = L0 := ⟨_, rfl⟩
          rw [hL0] at hrun q1
          generalize hz : (if fillO n b = none then (4 : Int) else 0) = z at hrun
          have HZZ := Aside0.mk hz
          have HRUN := Aside0.mk hrun
          clear hz
          clear hrun hfo hbt hiL hL0
          go_wp2_with fail
          refine HRUN.out.mono ?_
          rintro e w4 ⟨v, rfl, hr4, hb4⟩
          have HR4 := Aside0.mk hr4
          have HB4 := Aside0.mk hb4
          clear hr4 hb4
          go_wp2
          go_ret2
          obtain ⟨e1, e2⟩ := HRS.out
          have hb5 : Below w.heap.size w wx := HB0.out.trans (HBX.out.mono (by rw [← HS.out]; exact HB0.out.size))
          rw [e1, e2, HZZ.out]
          exact ⟨_, rfl, Kd.R_lower HR4.out hb5.size, hb5.trans (HB4.out.mono hb5.size)⟩
theorem rows_Fill.calls (A0 : Option Addr) (c0 : Nat) (l0 : List Int) (a1 : Int) (r1 : List Int) (r2 : Int) (w : World) (hr0 : Kd.C (Kd.int .i64) w A0 l0.length l0) (hc0 : l0.length ≤ c0) (h : rows_Fill.f l0 a1 = some (r1, r2)) :
    Calls Try.prog 33 #[.slice A0 l0.length c0, .int .i64 a1] w fun e w' => ∃ v0_ : Value, e = .returned (.tuple #[v0_, .int .i64 r2]) ∧ Kd.R (Kd.int .i64) 3 w' w.heap.size (fun _ => True) v0_ r1 ∧ Below w.heap.size w w' := by
  unfold rows_Fill.f at h
  by_cases hn : 2 ≤ a1 ∧ a1 ≤ 10
  · obtain ⟨n, rfl⟩ : ∃ n : Nat, a1 = (n : Int) := ⟨a1.toNat, by omega⟩
    rw [Int.toNat_natCast] at h
    by_cases hL : l0.length ≤ n
    · refine fill_walk A0 c0 l0 n w (by omega) (by omega) hr0 hc0 hL r1 r2 ?_
      by_cases hg : (chkT n l0 0).isSome = true
      · rw [if_pos ⟨hn.1, hn.2, by omega, hg⟩] at h
        injection h with h
        injection h with h1 h2
        rw [if_pos hg]; exact ⟨h1.symm, h2.symm⟩
      · rw [if_neg (fun h => hg h.2.2.2)] at h
        injection h with h
        injection h with h1 h2
        rw [if_neg hg]; exact ⟨h1.symm, h2.symm⟩
    · rw [if_neg (fun h => hL (by have := h.2.2.1; omega))] at h
      injection h with h
      injection h with h1 h2
      subst h1 h2
      exact fill_long A0 c0 l0.length n w (by omega) (by omega) (by omega)
  · rw [if_neg (fun h => hn ⟨h.1, h.2.1⟩)] at h
    injection h with h
    injection h with h1 h2
    subst h1 h2
    exact fill_bad A0 c0 l0.length a1 w hn

end Go.Proofs.Ytpfjnpbcnlbhaaa.P
namespace Go.Proofs.Ytpfjnpbcnlbhaaa.P
open Go.RowKit Go.Proofs.YtpfjnpbcnlbhaaaW.PrintWords Go.Proofs.YtpfjnpbcnlbhaaaW.PrintLast Go.Proofs.YtpfjnpbcnlbhaaaW.PrintMore
attribute [local go_sem] max2_int min2_int max_two min_two max_three min_three max_four min_four   -- for this text's walks alone
set_option linter.unusedVariables false
set_option linter.unusedSimpArgs false

/-! ### sackbutref05_mod: function 49 -/
def sackbutref05_mod.f (a0 : Int) (a1 : Int) : Option (Int) := if a1 = 0 then (none) else (some (Int.tmod (wrap64 ((Int.tmod a0 a1) + a1)) a1))
set_option maxHeartbeats 8000000 in
set_option maxRecDepth 100000 in
theorem sackbutref05_mod.calls (a0 : Int) (a1 : Int) (r : Int) (w : World) (h : sackbutref05_mod.f a0 a1 = some r) :
    Calls Try.prog 49 #[.int .i64 a0, .int .i64 a1] w fun e w' => e = .returned (.int .i64 r) ∧ Drawn0 w w' := by
  have H : (if a1 = 0 then (none) else (some (Int.tmod (wrap64 ((Int.tmod a0 a1) + a1)) a1))) = some r := h
  clear h
  by_cases c3 : a1 = 0
  · rw [if_pos c3] at H
    exact absurd H (by simp)
  · rw [if_neg c3] at H
    have c3b0 : (a1 == 0) = false := beq_eq_false_iff_ne.mpr c3
    have c3b1 : (a1 != 0) = true := bne_iff_ne.mpr c3
    obtain rfl := Option.some.inj H
    go_enter Try.func49, Try.ntmps49
    go_wp2
    go_ret
    exact ⟨by first | rfl | (simp; done) | (simp [*]; done), by repeat (first | exact Drawn0.refl _ | apply Drawn0.step)⟩

end Go.Proofs.Ytpfjnpbcnlbhaaa.P
namespace Go.Proofs.Ytpfjnpbcnlbhaaa.P
open Go.RowKit Go.Proofs.YtpfjnpbcnlbhaaaW.PrintWords Go.Proofs.YtpfjnpbcnlbhaaaW.PrintLast Go.Proofs.YtpfjnpbcnlbhaaaW.PrintMore
attribute [local go_sem] max2_int min2_int max_two min_two max_three min_three max_four min_four   -- for this text's walks alone
set_option linter.unusedVariables false
set_option linter.unusedSimpArgs false

/-! ### sackbutref05_Steps: function 21 -/
def sackbutref05_Steps.l0 : Nat → List Int → Int → List Int → Int → Option (List Int)
  | 0, _, _, _, _ => none
  | k + 1, x0, x1, x5, x6 => if x6 < (x0.length : Int) then (if 0 ≤ x6 then (if 0 ≤ (wrap64 (x6 - 1)) then (if (wrap64 (x6 - 1)) < (x0.length : Int) then ((sackbutref05_mod.f (wrap64 ((rd x0 x6) - (rd x0 (wrap64 (x6 - 1))))) x1).bind fun t1003 => (if x5.length < 17592186044416 then (sackbutref05_Steps.l0 k x0 x1 (x5 ++ [t1003]) (wrap64 (x6 + 1))) else (none))) else (none)) else (none)) else (none)) else (some x5)
def sackbutref05_Steps.f (k : Nat) (l0 : List Int) (a1 : Int) : Option (List Int) := sackbutref05_Steps.l0 k l0 a1 ([] : List Int) 1
theorem sackbutref05_Steps.mono_l : ∀ k, (∀ y0 y1 y2 y3, LeO (sackbutref05_Steps.l0 k y0 y1 y2 y3) (sackbutref05_Steps.l0 (k + 1) y0 y1 y2 y3))
  | 0 => fun _ _ _ _ r h => by simp [sackbutref05_Steps.l0] at h
  | k + 1 => by
    have ih0 := sackbutref05_Steps.mono_l k
    · intro y0 y1 y2 y3
      unfold sackbutref05_Steps.l0
      repeat' first
      | (with_reducible exact ih0 _ _ _ _)
      | (with_reducible exact LeO.refl _)
      | (with_reducible exact LeO.none _)
      | (with_reducible refine LeO.ite ?_ ?_)
      | (with_reducible refine LeO.bind ?_ (fun _ => ?_))
      | exact ih0 _ _ _ _
      | exact LeO.none _
      | refine LeO.ite ?_ ?_
      | refine LeO.bind ?_ (fun _ => ?_)
theorem sackbutref05_Steps.mono : ∀ a0 a1 k, LeO (sackbutref05_Steps.f k a0 a1) (sackbutref05_Steps.f (k + 1) a0 a1) := by
  intro a0 a1 k
  have ih0 := sackbutref05_Steps.mono_l k
  unfold sackbutref05_Steps.f
  repeat' first
      | (with_reducible exact ih0 _ _ _ _)
      | (with_reducible exact LeO.refl _)
      | (with_reducible exact LeO.none _)
      | (with_reducible refine LeO.ite ?_ ?_)
      | (with_reducible refine LeO.bind ?_ (fun _ => ?_))
      | exact ih0 _ _ _ _
      | exact LeO.none _
      | refine LeO.ite ?_ ?_
      | refine LeO.bind ?_ (fun _ => ?_)
def sackbutref05_Steps.T5 : Bool × List (List Nat × List Nat) := (true, [([], []), ([], []), ([], []), ([1, 2], [1, 2]), ([3], [3]), ([], []), ([], []), ([6], [6]), ([5, 7], [5, 7]), ([8], [8]), ([4, 9], [4, 9]), ([], []), ([10, 11], [10, 11]), ([12], [12]), ([0, 13, 12], [0, 13]), ([14, 14, 0, 1, 2, 3, 4, 5, 6, 7, 8, 9, 10, 11, 12, 13, 14], [0, 14])])
def sackbutref05_Steps.B5 : List Nat := [0, 0, 0, 6, 14, 0, 0, 64, 224, 480, 1022, 0, 4094, 8190, 16383, 32767]
theorem sackbutref05_Steps.tab5 : rtab .any (opsOf Try.f21 5) = sackbutref05_Steps.T5 := by kernel_rfl
theorem sackbutref05_Steps.bits5 : waitsOk sackbutref05_Steps.T5.2 sackbutref05_Steps.B5 = true := by kernel_rfl
set_option maxHeartbeats 8000000 in
set_option maxRecDepth 100000 in
theorem sackbutref05_Steps.calls (k : Nat) (A0 : Option Addr) (c0 : Nat) (l0 : List Int) (a1 : Int) (r : List Int) (w : World) (hr0 : Kd.C (Kd.int .i64) w A0 l0.length l0) (hc0 : l0.length ≤ c0) (h : sackbutref05_Steps.f k l0 a1 = some r) :
    Calls Try.prog 21 #[.slice A0 l0.length c0, .int .i64 a1] w fun e w' => ∃ v0_ : Value, e = .returned (v0_) ∧ Kd.R (Kd.int .i64) 3 w' w.heap.size (fun _ => True) v0_ r ∧ Below w.heap.size w w' := by
  have HR0 := Aside0.mk hr0
  have HC0 := Aside0.mk hc0
  clear hr0 hc0
  have HB := Aside0.mk (Below.refl w.heap.size w)
  have H : (sackbutref05_Steps.l0 k l0 a1 ([] : List Int) 1) = some r := h
  clear h
  have H' := Aside0.mk H
  clear H
  go_enter Try.func21, Try.ntmps21
  go_wp2
  go_loopg [5, 6] k (fun kq v5 v6 w' => ∃ (x5_1 : List Int) (x6_1 : Int), v6 = .int .i64 x6_1 ∧ Aside0 (sackbutref05_Steps.l0 kq l0 a1 x5_1 x6_1 = some r) ∧ Aside0 (kq ≤ k) ∧ Aside0 (Kd.R (Kd.int .i64) 3 w' w.heap.size (fun _ => True) v5 x5_1) ∧ Aside0 (Below w.heap.size w w'))
  case atStart => exact ⟨(([] : List Int)), (1), (by first | rfl | (simp; done) | (simp [*]; done)), H', ⟨Nat.le_refl _⟩, ⟨by first | exact Kd.R_nil _ _ _ _ _ | exact Kd.N_nil _ _ _ _ _ | exact Kd.V_nil _ _ _ _ _ | exact Kd.Q_nil _ _ _ _ _ | exact Kd.S_nil _ _ _ _ _⟩, ⟨by repeat (first | (with_reducible first | exact HB.out | apply below_alloc | apply pw_below_drewN | apply below_drew1) | exact HB.out)⟩⟩
  case round =>
    clear H'
    try clear c2
    try clear p2
    obtain ⟨x5_1, x6_1, rfl, HA, HK1, HO_5, HB⟩ := hrel
    cases gk with
    | zero => exact absurd HA.out (by simp [sackbutref05_Steps.l0])
    | succ k1 =>
      have H := HA.out
      clear HA
      simp only [sackbutref05_Steps.l0] at H
      by_cases c3 : x6_1 < (l0.length : Int)
      · rw [if_pos c3] at H
        have c3b0 : decide (x6_1 < (l0.length : Int)) = true := decide_eq_true c3
        clear c3
        by_cases c4 : 0 ≤ x6_1
        · rw [if_pos c4] at H
          have c4b0 : decide (0 ≤ x6_1) = true := decide_eq_true c4
          clear c4
          obtain ⟨ji5, hji5⟩ : ∃ j_ : Int, (wrap64 (x6_1 - 1)) = j_ := ⟨_, rfl⟩
          replace H : (if 0 ≤ (ji5) then (if (ji5) < (l0.length : Int) then ((sackbutref05_mod.f (wrap64 ((rd l0 x6_1) - (rd l0 (ji5)))) a1).bind fun t1003 => (if x5_1.length < 17592186044416 then (sackbutref05_Steps.l0 k1 l0 a1 (x5_1 ++ [t1003]) (wrap64 (x6_1 + 1))) else (none))) else (none)) else (none)) = some r := by first | (rw [hji5] at H; exact H) | (simp only [hji5] at H ⊢; exact H)
          have hji5w : (IntKind.i64.wrap (x6_1 - 1)) = ji5 := (i64_w _).trans hji5
          by_cases c6 : 0 ≤ (ji5)
          · rw [if_pos c6] at H
            have c6b0 : decide (0 ≤ (ji5)) = true := decide_eq_true c6
            clear c6
            by_cases c7 : (ji5) < (l0.length : Int)
            · rw [if_pos c7] at H
              have c7b0 : decide ((ji5) < (l0.length : Int)) = true := decide_eq_true c7
              clear c7
              replace H := Option.bind_eq_some_iff.mp H
              obtain ⟨t1003, A80, H⟩ := H
              replace H : (if x5_1.length < 17592186044416 then (sackbutref05_Steps.l0 k1 l0 a1 (x5_1 ++ [t1003]) (wrap64 (x6_1 + 1))) else (none)) = some r := H
              have A8 := Aside0.mk A80
              clear A80
              by_cases c9 : x5_1.length < 17592186044416
              · rw [if_pos c9] at H
                have LMc9 := Aside0.mk c9
                clear c9
                obtain ⟨y1004, hy1004⟩ : ∃ y_ : List Int, y_ = (x5_1 ++ [t1003]) := ⟨_, rfl⟩
                replace H : (sackbutref05_Steps.l0 k1 l0 a1 y1004 (wrap64 (x6_1 + 1))) = some r := by first | (rw [hy1004]; with_reducible exact H) | (have H2_ := (Option.bind_some _ _).symm.trans H; rw [hy1004]; with_reducible exact H2_) | (have H2_ := (Option.bind_some _ _).symm.trans H; with_reducible exact H2_) | with_reducible exact H | (rw [hy1004]; exact H) | exact H
                have Ny1004 := Aside0.mk hy1004
                clear hy1004
                have H' := Aside0.mk H
                clear H
                try go_wp2
                have n0_ := Aside0.mk (Kd.R_drew HO_5.out)
                have n1_ := Aside0.mk (below_drew1 HB.out)
                clear HO_5
                clear HB
                have HO_5 := n0_
                have HB := n1_
                clear n0_ n1_
                have p1001 : 0 ≤ (x6_1 : Int) := of_decide_eq_true (by first | (with_reducible assumption) | assumption)
                have q1001 : x6_1 < (l0.length : Int) := of_decide_eq_true (by first | (with_reducible assumption) | assumption)
                obtain ⟨ad1001, e1001, hx1001_0⟩ := Kd.at_int HR0.out x6_1 p1001 q1001
                have hw1001_0 := hx1001_0
                cases e1001
                replace hx1001_0 := (HB.out.cell (World.block_lt_of_cell? w _ hx1001_0)).trans hx1001_0
                replace p1001 := eq_true p1001
                replace q1001 := eq_true q1001
                have p1002 : 0 ≤ ((ji5) : Int) := of_decide_eq_true (by first | (with_reducible assumption) | assumption)
                have q1002 : (ji5) < (l0.length : Int) := of_decide_eq_true (by first | (with_reducible assumption) | assumption)
                obtain ⟨ad1002, e1002, hx1002_0⟩ := Kd.at_int HR0.out (ji5) p1002 q1002
                have hw1002_0 := hx1002_0
                obtain rfl : ad1001 = ad1002 := (by injection e1002)
                replace hx1002_0 := (HB.out.cell (World.block_lt_of_cell? w _ hx1002_0)).trans hx1002_0
                replace p1002 := eq_true p1002
                replace q1002 := eq_true q1002
                refine start_ (n := 16) (S := fun w' => w'.cell? (ad1001.add (x6_1).toNat) = some (.int .i64 (rd l0 x6_1)) ∧ w'.cell? (ad1001.add ((ji5)).toNat) = some (.int .i64 (rd l0 (ji5)))) (ds := []) #[false, false, false, false, false, false, false, false, false, false, false, false, false, false, false, false] (by kernel_rfl) rfl rfl ⟨((HB.out.cell (World.block_lt_of_cell? w _ hw1001_0)).trans hw1001_0), ((HB.out.cell (World.block_lt_of_cell? w _ hw1002_0)).trans hw1002_0)⟩ (fun hHeld => ?_); refine with_tabW sackbutref05_Steps.tab5 sackbutref05_Steps.bits5 (fun HT_ HW_ => ?_)
                generalize wr.drew = w10 at HO_5 HB hx1001_0 hx1002_0 hHeld ⊢
                refine pure_ (i := 0) (N := some 13) (v := ?_) (a' := ?_) #[true, false, false, false, false, false, false, false, false, false, false, false, false, false, false, false] rfl rfl (any_of HT_.out (by kernel_rfl)) (fun _ _ _ h => h) (Or.inl ⟨by rfl, ?_⟩) ?_ ?_
                rotate_left
                · intro w'
                  go_simp
                  with_reducible rfl
                rotate_left
                · simp only [Act.put, List.setIfInBounds_toArray, List.set_cons_zero, List.set_cons_succ, i64_w, i32_w]
                  rfl
                refine pure_ (i := 1) (N := some 14) (v := ?_) (a' := ?_) #[true, true, false, false, false, false, false, false, false, false, false, false, false, false, false, false] rfl rfl (any_of HT_.out (by kernel_rfl)) (fun _ _ _ h => h) (Or.inl ⟨by rfl, ?_⟩) ?_ ?_
                rotate_left
                · intro w'
                  go_simp
                  with_reducible rfl
                rotate_left
                · simp only [Act.put, List.setIfInBounds_toArray, List.set_cons_zero, List.set_cons_succ, i64_w, i32_w]
                  rfl
                refine pure_ (i := 2) (N := some 15) (v := ?_) (a' := ?_) #[true, true, true, false, false, false, false, false, false, false, false, false, false, false, false, false] rfl rfl (any_of HT_.out (by kernel_rfl)) (fun _ _ _ h => h) (Or.inl ⟨by rfl, ?_⟩) ?_ ?_
                rotate_left
                · intro w'
                  go_simp
                  with_reducible rfl
                rotate_left
                · simp only [Act.put, List.setIfInBounds_toArray, List.set_cons_zero, List.set_cons_succ, i64_w, i32_w]
                  rfl
                refine pure_ (i := 3) (N := some 16) (v := ?_) (a' := ?_) #[true, true, true, true, false, false, false, false, false, false, false, false, false, false, false, false] rfl rfl (any_of HT_.out (by kernel_rfl)) (fun _ _ _ h => h) (Or.inl ⟨by rfl, ?_⟩) ?_ ?_
                rotate_left
                · intro w'
                  go_simp
                  with_reducible rfl
                rotate_left
                · simp only [Act.put, List.setIfInBounds_toArray, List.set_cons_zero, List.set_cons_succ, i64_w, i32_w]
                  rfl
                refine pure_ (i := 5) (N := some 18) (v := ?_) (a' := ?_) #[true, true, true, true, false, true, false, false, false, false, false, false, false, false, false, false] rfl rfl (any_of HT_.out (by kernel_rfl)) (fun _ _ _ h => h) (Or.inl ⟨by rfl, ?_⟩) ?_ ?_
                rotate_left
                · intro w'
                  go_simp
                  with_reducible rfl
                rotate_left
                · simp only [Act.put, List.setIfInBounds_toArray, List.set_cons_zero, List.set_cons_succ, i64_w, i32_w]
                  rfl
                refine pure_ (i := 6) (N := some 19) (v := ?_) (a' := ?_) #[true, true, true, true, false, true, true, false, false, false, false, false, false, false, false, false] rfl rfl (any_of HT_.out (by kernel_rfl)) (fun _ _ _ h => h) (Or.inl ⟨by rfl, ?_⟩) ?_ ?_
                rotate_left
                · intro w'
                  go_simp
                  with_reducible rfl
                rotate_left
                · simp only [Act.put, List.setIfInBounds_toArray, List.set_cons_zero, List.set_cons_succ, i64_w, i32_w]
                  rfl
                refine pure_ (i := 7) (N := some 20) (v := ?_) (a' := ?_) #[true, true, true, true, false, true, true, true, false, false, false, false, false, false, false, false] rfl rfl (any_of HT_.out (by kernel_rfl)) (fun _ _ _ h => h) (Or.inl ⟨by rfl, ?_⟩) ?_ ?_
                rotate_left
                · intro w'
                  go_simp
                  with_reducible rfl
                rotate_left
                · simp only [Act.put, List.setIfInBounds_toArray, List.set_cons_zero, List.set_cons_succ, i64_w, i32_w]
                  rfl
                refine pure_ (i := 8) (N := some 21) (v := ?_) (a' := ?_) #[true, true, true, true, false, true, true, true, true, false, false, false, false, false, false, false] rfl rfl (any_of HT_.out (by kernel_rfl)) (fun _ _ _ h => h) (Or.inl ⟨by rfl, ?_⟩) ?_ ?_
                rotate_left
                · intro w'
                  go_simp
                  with_reducible rfl
                rotate_left
                · simp only [Act.put, List.setIfInBounds_toArray, List.set_cons_zero, List.set_cons_succ, i64_w, i32_w]
                  rfl
                refine pure_ (i := 11) (N := some 24) (v := ?_) (a' := ?_) #[true, true, true, true, false, true, true, true, true, false, false, true, false, false, false, false] rfl rfl (any_of HT_.out (by kernel_rfl)) (fun _ _ _ h => h) (Or.inl ⟨by rfl, ?_⟩) ?_ ?_
                rotate_left
                · intro w'
                  go_simp
                  with_reducible rfl
                rotate_left
                · simp only [Act.put, List.setIfInBounds_toArray, List.set_cons_zero, List.set_cons_succ, i64_w, i32_w]
                  rfl
                refine take_ (i := 4) (N := some 17) (v := ?_) (a' := ?_) #[true, true, true, true, true, true, true, true, true, false, false, true, false, false, false, false] rfl rfl (take_ofW HT_.out HW_.out (by kernel_rfl)) (fun _ _ _ h => h) (Or.inl ⟨by rfl, ?_⟩) hHeld ?_ ?_
                rotate_left
                · rintro w' ⟨s0, s1⟩
                  go_simp
                  with_reducible rfl
                rotate_left
                · simp only [Act.put, List.setIfInBounds_toArray, List.set_cons_zero, List.set_cons_succ, i64_w, i32_w]
                  rfl
                refine take_ (i := 9) (N := some 22) (v := ?_) (a' := ?_) #[true, true, true, true, true, true, true, true, true, true, false, true, false, false, false, false] rfl rfl (take_ofW HT_.out HW_.out (by kernel_rfl)) (fun _ _ _ h => h) (Or.inl ⟨by rfl, ?_⟩) hHeld ?_ ?_
                rotate_left
                · rintro w' ⟨s0, s1⟩
                  go_simp
                  with_reducible rfl
                rotate_left
                · simp only [Act.put, List.setIfInBounds_toArray, List.set_cons_zero, List.set_cons_succ, i64_w, i32_w]
                  rfl
                refine pure_ (i := 10) (N := some 23) (v := ?_) (a' := ?_) #[true, true, true, true, true, true, true, true, true, true, true, true, false, false, false, false] rfl rfl (any_of HT_.out (by kernel_rfl)) (fun _ _ _ h => h) (Or.inl ⟨by rfl, ?_⟩) ?_ ?_
                rotate_left
                · intro w'
                  go_simp
                  with_reducible rfl
                rotate_left
                · simp only [Act.put, List.setIfInBounds_toArray, List.set_cons_zero, List.set_cons_succ, i64_w, i32_w]
                  rfl
                refine one_ (i := 12) (N := some 25) #[true, true, true, true, true, true, true, true, true, true, true, true, true, false, false, false] rfl rfl (one_of HT_.out (by kernel_rfl)) (by decide) (fun K hK => ?_)
                refine goes_ Try.func49 (by kernel_rfl) rfl #[.int .i64 (wrap64 ((rd l0 x6_1) - (rd l0 (ji5)))), .int .i64 a1] (by rfl) rfl rfl (by (try simp only [List.map_toArray, List.map_cons, List.map_nil]); first | done | (simp only [hji5]; rfl) | rfl | (simp only [List.length_drop, List.length_take]; rfl)) ?_
                with_reducible refine (sackbutref05_mod.calls (wrap64 ((rd l0 x6_1) - (rd l0 (ji5)))) a1 t1003 _ A8.out).mono ?_
                rintro e w' ⟨rfl, ⟨nd, rfl⟩⟩
                refine ⟨_, rfl, ?_⟩
                refine hK.out _ _ ⟨((HB.out.cell (World.block_lt_of_cell? w _ hw1001_0)).trans hw1001_0), ((HB.out.cell (World.block_lt_of_cell? w _ hw1002_0)).trans hw1002_0)⟩ (fun hHeld => ?_)
                clear hK K
                refine norm_ (a' := ?_) ?_ ?_
                rotate_left
                · show Act.put _ (some 25) _ = _
                  simp only [Act.put, List.setIfInBounds_toArray, List.set_cons_zero, List.set_cons_succ, i64_w, i32_w]
                  rfl
                refine one_ (i := 13) (N := some 26) #[true, true, true, true, true, true, true, true, true, true, true, true, true, true, false, false] rfl rfl (one_of HT_.out (by kernel_rfl)) (by decide) (fun K hK => ?_)
                refine value_ (w1 := ?_) (v := ?_) (by rfl) rfl ?_ ?_
                rotate_left 2
                · go_simp
                  constructor
                  · rfl
                  · rfl
                refine hK.out _ _ ⟨(World.cell?_alloc_lt _ _ _ (World.block_lt_of_cell? _ _ (((HB.out.cell (World.block_lt_of_cell? w _ hw1001_0)).trans hw1001_0)))).trans (((HB.out.cell (World.block_lt_of_cell? w _ hw1001_0)).trans hw1001_0)), (World.cell?_alloc_lt _ _ _ (World.block_lt_of_cell? _ _ (((HB.out.cell (World.block_lt_of_cell? w _ hw1002_0)).trans hw1002_0)))).trans (((HB.out.cell (World.block_lt_of_cell? w _ hw1002_0)).trans hw1002_0))⟩ (fun hHeld => ?_)
                clear hK K
                refine norm_ (a' := ?_) ?_ ?_
                rotate_left
                · show Act.put _ (some 26) _ = _
                  simp only [Act.put, List.setIfInBounds_toArray, List.set_cons_zero, List.set_cons_succ, i64_w, i32_w]
                  rfl
                refine one_ (i := 14) (N := some 27) #[true, true, true, true, true, true, true, true, true, true, true, true, true, true, true, false] rfl rfl (one_of HT_.out (by kernel_rfl)) (by decide) (fun K hK => ?_)
                refine Kd.R_append_step (Kd.int .i64) (w0 := w) w.heap.size (by rfl) (.tmp 13) (.tmp 26) 22 3 (.int .i64 0) 8 rfl Try.underlying22 info3 rfl (by decide) (by omega) u5 x5_1 t1003 [.int .i64 t1003] (fun _ => True) (fun _ => False) rfl rfl ?aP (fun _ hk => hk.elim) ?aF ?aO ?aB ?aS ?aL ?_
                (case aP => exact rfl)
                (case aB => exact (by repeat (first | (with_reducible first | exact HB.out | apply below_alloc | apply pw_below_drewN | apply below_drew1) | exact HB.out)))
                (case aF => exact (fun _ _ => trivial))
                (case aO => exact (by (with_reducible repeat (first | apply Kd.R_alloc | apply Kd.R_drewN | apply Kd.R_drew)); exact HO_5.out))
                (case aS => exact (below_size (by repeat (first | (with_reducible first | exact HB.out | apply below_alloc | apply pw_below_drewN | apply below_drew1) | exact HB.out))))
                (case aL => have := LMc9.out; omega)
                intro v1005 w11 ho hb hg hat
                rw [← Ny1004.out] at ho
                have n0_ := Aside0.mk (hb)
                have n1_ := Aside0.mk (ho)
                clear HB
                clear HO_5
                have HB := n0_
                have HO1006 := n1_
                clear n0_ n1_
                clear ho hb hg hat
                refine hK.out _ _ ⟨((HB.out.cell (World.block_lt_of_cell? w _ hw1001_0)).trans hw1001_0), ((HB.out.cell (World.block_lt_of_cell? w _ hw1002_0)).trans hw1002_0)⟩ (fun hHeld => ?_)
                clear hK K
                refine norm_ (a' := ?_) ?_ ?_
                rotate_left
                · show Act.put _ (some 27) _ = _
                  simp only [Act.put, List.setIfInBounds_toArray, List.set_cons_zero, List.set_cons_succ, i64_w, i32_w]
                  rfl
                refine pure_ (i := 15) (N := some 5) (v := ?_) (a' := ?_) #[true, true, true, true, true, true, true, true, true, true, true, true, true, true, true, true] rfl rfl (any_of HT_.out (by kernel_rfl)) (fun _ _ _ h => h) (Or.inl ⟨by rfl, ?_⟩) ?_ ?_
                rotate_left
                · intro w'
                  go_simp
                  with_reducible rfl
                rotate_left
                · simp only [Act.put, List.setIfInBounds_toArray, List.set_cons_zero, List.set_cons_succ, i64_w, i32_w]
                  rfl
                refine done_ (done_of HT_.out (by kernel_rfl)) ?_
                try go_wp2
                go_roundg k1
                case measure => have := HK1.out; omega
                case rel => exact ⟨(y1004), (wrap64 (x6_1 + 1)), (by first | rfl | (simp; done) | (simp [*]; done)), H', ⟨by have := HK1.out; omega⟩, ⟨by (with_reducible repeat (first | apply Kd.R_alloc | apply Kd.R_drewN | apply Kd.R_drew)); exact HO1006.out⟩, ⟨by repeat (first | (with_reducible first | exact HB.out | apply below_alloc | apply pw_below_drewN | apply below_drew1) | exact HB.out)⟩⟩
              · rw [if_neg c9] at H
                exact absurd H (by simp)
            · rw [if_neg c7] at H
              exact absurd H (by simp)
          · rw [if_neg c6] at H
            exact absurd H (by simp)
        · rw [if_neg c4] at H
          exact absurd H (by simp)
      · rw [if_neg c3] at H
        have c3b0 : decide (x6_1 < (l0.length : Int)) = false := decide_eq_false c3
        clear c3
        obtain rfl := Option.some.inj H
        go_wp2
        go_ret
        exact ⟨_, by first | rfl | (simp [errW_none, errW_some] <;> rfl) | (simp [*, errW_none, errW_some] <;> rfl), by (with_reducible repeat (first | apply Kd.R_alloc | apply Kd.R_drewN | apply Kd.R_drew)); exact HO_5.out, by repeat (first | (with_reducible first | exact HB.out | apply below_alloc | apply pw_below_drewN | apply below_drew1) | exact HB.out)⟩

end Go.Proofs.Ytpfjnpbcnlbhaaa.P
namespace Go.Proofs.Ytpfjnpbcnlbhaaa.P
open Go.RowKit Go.Proofs.YtpfjnpbcnlbhaaaW.PrintWords Go.Proofs.YtpfjnpbcnlbhaaaW.PrintLast Go.Proofs.YtpfjnpbcnlbhaaaW.PrintMore
attribute [local go_sem] max2_int min2_int max_two min_two max_three min_three max_four min_four   -- for this text's walks alone
set_option linter.unusedVariables false
set_option linter.unusedSimpArgs false

/-! ### sackbutref05_Every: function 22 -/
def sackbutref05_Every.l0 : Nat → Int → List Int → Int → Int → Option (Bool)
  | 0, _, _, _, _ => none
  | k + 1, x5, x10, x11, x12 => if x12 < x11 then (if 0 ≤ x12 then (if x12 < (x10.length : Int) then (if 0 ≤ (rd x10 x12) then (if (Go.bits .and .i64 (shr .i64 x5 (rd x10 x12)) 1) = 1 then (some false) else (sackbutref05_Every.l0 k (Go.bits .or .i64 x5 (shl .i64 1 (rd x10 x12))) x10 x11 (wrap64 (x12 + 1)))) else (none)) else (none)) else (none)) else (some true)
def sackbutref05_Every.f (k : Nat) (l0 : List Int) (a1 : Int) : Option (Bool) := (sackbutref05_Steps.f k l0 a1).bind fun t1001 => (sackbutref05_Every.l0 k 0 t1001 (t1001.length : Int) 0)
theorem sackbutref05_Every.mono_l : ∀ k, (∀ y0 y1 y2 y3, LeO (sackbutref05_Every.l0 k y0 y1 y2 y3) (sackbutref05_Every.l0 (k + 1) y0 y1 y2 y3))
  | 0 => fun _ _ _ _ r h => by simp [sackbutref05_Every.l0] at h
  | k + 1 => by
    have ih0 := sackbutref05_Every.mono_l k
    · intro y0 y1 y2 y3
      unfold sackbutref05_Every.l0
      repeat' first
      | (with_reducible exact ih0 _ _ _ _)
      | (with_reducible exact sackbutref05_Steps.mono _ _ _)
      | (with_reducible exact LeO.refl _)
      | (with_reducible exact LeO.none _)
      | (with_reducible refine LeO.ite ?_ ?_)
      | (with_reducible refine LeO.bind ?_ (fun _ => ?_))
      | exact ih0 _ _ _ _
      | exact sackbutref05_Steps.mono _ _ _
      | exact LeO.none _
      | refine LeO.ite ?_ ?_
      | refine LeO.bind ?_ (fun _ => ?_)
theorem sackbutref05_Every.mono : ∀ a0 a1 k, LeO (sackbutref05_Every.f k a0 a1) (sackbutref05_Every.f (k + 1) a0 a1) := by
  intro a0 a1 k
  have ih0 := sackbutref05_Every.mono_l k
  unfold sackbutref05_Every.f
  repeat' first
      | (with_reducible exact ih0 _ _ _ _)
      | (with_reducible exact sackbutref05_Steps.mono _ _ _)
      | (with_reducible exact LeO.refl _)
      | (with_reducible exact LeO.none _)
      | (with_reducible refine LeO.ite ?_ ?_)
      | (with_reducible refine LeO.bind ?_ (fun _ => ?_))
      | exact ih0 _ _ _ _
      | exact sackbutref05_Steps.mono _ _ _
      | exact LeO.none _
      | refine LeO.ite ?_ ?_
      | refine LeO.bind ?_ (fun _ => ?_)
set_option maxHeartbeats 8000000 in
set_option maxRecDepth 100000 in
theorem sackbutref05_Every.calls (k : Nat) (A0 : Option Addr) (c0 : Nat) (l0 : List Int) (a1 : Int) (r : Bool) (w : World) (hr0 : Kd.C (Kd.int .i64) w A0 l0.length l0) (hc0 : l0.length ≤ c0) (h : sackbutref05_Every.f k l0 a1 = some r) :
    Calls Try.prog 22 #[.slice A0 l0.length c0, .int .i64 a1] w fun e w' => e = .returned (.bool r) ∧ Below w.heap.size w w' := by
  have HR0 := Aside0.mk hr0
  have HC0 := Aside0.mk hc0
  clear hr0 hc0
  have HB := Aside0.mk (Below.refl w.heap.size w)
  have H : ((sackbutref05_Steps.f k l0 a1).bind fun t1001 => (sackbutref05_Every.l0 k 0 t1001 (t1001.length : Int) 0)) = some r := h
  clear h
  replace H := Option.bind_eq_some_iff.mp H
  obtain ⟨t1001, A30, H⟩ := H
  replace H : (sackbutref05_Every.l0 k 0 t1001 (t1001.length : Int) 0) = some r := H
  have A3 := Aside0.mk A30
  clear A30
  have H' := Aside0.mk H
  clear H
  go_enter Try.func22, Try.ntmps22
  go_wp2_with (first | ((with_reducible refine gate_callee (f := 21) rfl ?_); refine goesL_ (some 10) rfl rfl Try.func21 (by kernel_rfl) rfl #[.slice A0 l0.length c0, .int .i64 a1] rfl (by (try simp only [List.map_toArray, List.map_cons, List.map_nil]); first | done | rfl | (simp only [List.length_drop, List.length_take]; rfl)) ?_; (with_reducible refine (sackbutref05_Steps.calls k _ _ l0 a1 t1001 _ ?side1 ?side2 A3.out).mono ?_); (case side1 => repeat (first | exact HR0.out | (with_reducible refine Kd.C_alloc ?_ _) | (with_reducible refine Kd.C_drewN ?_ _) | (with_reducible refine Kd.C_drew ?_))); (case side2 => exact HC0.out); rintro e w4 ⟨v1002, rfl, ho0, hb⟩; refine ⟨_, rfl, ?_⟩; have n0_ := Aside0.mk (Kd.R_lower ho0 (below_size (by repeat (first | (with_reducible first | exact HB.out | apply below_alloc | apply pw_below_drewN | apply below_drew1) | exact HB.out)))); have n1_ := Aside0.mk (below_step (by repeat (first | (with_reducible first | exact HB.out | apply below_alloc | apply pw_below_drewN | apply below_drew1) | exact HB.out)) hb); clear HB; have HO1003 := n0_; have HB := n1_; clear n0_ n1_; (try clear hb); (try clear hb2); (try clear hk); (try clear hi); (try clear ho0); obtain ⟨Ao5, co5, eo5⟩ := Kd.R_slice HO1003.out; subst eo5))
  go_loopg [5, 12] k (fun kq v5 v12 w' => ∃ (x5_1 : Int) (x12_1 : Int), v5 = .int .i64 x5_1 ∧ v12 = .int .i64 x12_1 ∧ Aside0 (sackbutref05_Every.l0 kq x5_1 t1001 (t1001.length : Int) x12_1 = some r) ∧ Aside0 (kq ≤ k) ∧ Aside0 (Kd.R (Kd.int .i64) 3 w' w.heap.size (fun _ => True) (.slice Ao5 t1001.length co5) t1001) ∧ Aside0 (Below w.heap.size w w'))
  case atStart => exact ⟨(0), (0), (by first | rfl | (simp; done) | (simp [*]; done)), (by first | rfl | (simp; done) | (simp [*]; done)), H', ⟨Nat.le_refl _⟩, ⟨by (with_reducible repeat (first | apply Kd.R_alloc | apply Kd.R_drewN | apply Kd.R_drew)); exact HO1003.out⟩, ⟨by repeat (first | (with_reducible first | exact HB.out | apply below_alloc | apply pw_below_drewN | apply below_drew1) | exact HB.out)⟩⟩
  case round =>
    clear H'
    try clear c2
    try clear p2
    obtain ⟨x5_1, x12_1, rfl, rfl, HA, HK1, HO_10, HB⟩ := hrel
    cases gk with
    | zero => exact absurd HA.out (by simp [sackbutref05_Every.l0])
    | succ k1 =>
      have H := HA.out
      clear HA
      simp only [sackbutref05_Every.l0] at H
      by_cases c6 : x12_1 < (t1001.length : Int)
      · rw [if_pos c6] at H
        have c6b0 : decide (x12_1 < (t1001.length : Int)) = true := decide_eq_true c6
        clear c6
        by_cases c7 : 0 ≤ x12_1
        · rw [if_pos c7] at H
          have c7b0 : decide (0 ≤ x12_1) = true := decide_eq_true c7
          clear c7
          by_cases c8 : x12_1 < (t1001.length : Int)
          · rw [if_pos c8] at H
            have c8b0 : decide (x12_1 < (t1001.length : Int)) = true := decide_eq_true c8
            clear c8
            by_cases c9 : 0 ≤ (rd t1001 x12_1)
            · rw [if_pos c9] at H
              have c9b0 := eq_true c9
              have c9b1 : decide (0 ≤ (rd t1001 x12_1)) = true := decide_eq_true c9
              clear c9
              obtain ⟨ji10, hji10⟩ : ∃ j_ : Int, (shr .i64 x5_1 (rd t1001 x12_1)) = j_ := ⟨_, rfl⟩
              replace H : (if (Go.bits .and .i64 (ji10) 1) = 1 then (some false) else (sackbutref05_Every.l0 k1 (Go.bits .or .i64 x5_1 (shl .i64 1 (rd t1001 x12_1))) t1001 (t1001.length : Int) (wrap64 (x12_1 + 1)))) = some r := by first | (rw [hji10] at H; exact H) | (simp only [hji10] at H ⊢; exact H)
              have hji10_ : (x5_1 / 2 ^ min (rd t1001 x12_1).toNat 64) = ji10 := hji10
              have hji10z : (rd t1001 x12_1) ≤ 64 → (x5_1 / 2 ^ (rd t1001 x12_1).toNat) = ji10 := shr_small hji10
              by_cases c11 : (Go.bits .and .i64 (ji10) 1) = 1
              · rw [if_pos c11] at H
                have c11b0 : ((Go.bits .and .i64 (ji10) 1) == 1) = true := beq_iff_eq.mpr c11
                have c11b1 : ((Go.bits .and .i64 (ji10) 1) != 1) = false := bne_eq_false_iff_eq.mpr c11
                clear c11
                obtain rfl := Option.some.inj H
                have p1004 : 0 ≤ (x12_1 : Int) := of_decide_eq_true (by first | (with_reducible assumption) | assumption)
                have q1004 : x12_1 < (t1001.length : Int) := of_decide_eq_true (by first | (with_reducible assumption) | assumption)
                obtain ⟨ad1004, e1004, hx1004_0⟩ := Kd.at_int (Kd.R_reads' HO_10.out).2.2 x12_1 p1004 q1004
                cases e1004
                replace p1004 := eq_true p1004
                replace q1004 := eq_true q1004
                go_wp2
                go_ret
                exact ⟨by first | rfl | (simp [errW_none, errW_some] <;> rfl) | (simp only [← hji10]; first | rfl | (simp [errW_none, errW_some] <;> rfl)) | (simp [*, errW_none, errW_some] <;> rfl), by repeat (first | (with_reducible first | exact HB.out | apply below_alloc | apply pw_below_drewN | apply below_drew1) | exact HB.out)⟩
              · rw [if_neg c11] at H
                have c11b0 : ((Go.bits .and .i64 (ji10) 1) == 1) = false := beq_eq_false_iff_ne.mpr c11
                have c11b1 : ((Go.bits .and .i64 (ji10) 1) != 1) = true := bne_iff_ne.mpr c11
                have c12b0 := eq_true (of_decide_eq_true (by first | (with_reducible assumption) | assumption) : 0 ≤ (rd t1001 x12_1))
                obtain ⟨ji13, hji13⟩ : ∃ j_ : Int, (shl .i64 1 (rd t1001 x12_1)) = j_ := ⟨_, rfl⟩
                replace H : (sackbutref05_Every.l0 k1 (Go.bits .or .i64 x5_1 (ji13)) t1001 (t1001.length : Int) (wrap64 (x12_1 + 1))) = some r := by first | (rw [hji13] at H; exact H) | (simp only [hji13] at H ⊢; exact H)
                have hji13_ : (IntKind.i64.wrap (1 * 2 ^ min (rd t1001 x12_1).toNat 64)) = ji13 := hji13
                have hji13z : (rd t1001 x12_1) ≤ 64 → (IntKind.i64.wrap (1 * 2 ^ (rd t1001 x12_1).toNat)) = ji13 := shl_small hji13
                have hji13u : (IntKind.i64.wrap (2 ^ min (rd t1001 x12_1).toNat 64)) = ji13 := by have h_ := hji13_; rw [Int.one_mul] at h_; exact h_
                have hji13v : (rd t1001 x12_1) ≤ 64 → (IntKind.i64.wrap (2 ^ (rd t1001 x12_1).toNat)) = ji13 := fun hle_ => by have h_ := hji13z hle_; rw [Int.one_mul] at h_; exact h_
                have hji13y : (wrap64 (1 * 2 ^ min (rd t1001 x12_1).toNat 64)) = ji13 := (i64_w _).symm.trans hji13_
                have hji13x : (rd t1001 x12_1) ≤ 64 → (wrap64 (1 * 2 ^ (rd t1001 x12_1).toNat)) = ji13 := fun h_ => (i64_w _).symm.trans (hji13z h_)
                have H' := Aside0.mk H
                clear H
                have p1004 : 0 ≤ (x12_1 : Int) := of_decide_eq_true (by first | (with_reducible assumption) | assumption)
                have q1004 : x12_1 < (t1001.length : Int) := of_decide_eq_true (by first | (with_reducible assumption) | assumption)
                obtain ⟨ad1004, e1004, hx1004_0⟩ := Kd.at_int (Kd.R_reads' HO_10.out).2.2 x12_1 p1004 q1004
                cases e1004
                replace p1004 := eq_true p1004
                replace q1004 := eq_true q1004
                go_wp2
                go_roundg k1
                case measure => have := HK1.out; omega
                case rel => exact ⟨(Go.bits .or .i64 x5_1 (ji13)), (wrap64 (x12_1 + 1)), (by first | rfl | (simp; done) | (simp only [← hji13] <;> (first | rfl | simp)) | (simp [*]; done)), (by first | rfl | (simp; done) | (simp [*]; done)), H', ⟨by have := HK1.out; omega⟩, ⟨by (with_reducible repeat (first | apply Kd.R_alloc | apply Kd.R_drewN | apply Kd.R_drew)); exact HO_10.out⟩, ⟨by repeat (first | (with_reducible first | exact HB.out | apply below_alloc | apply pw_below_drewN | apply below_drew1) | exact HB.out)⟩⟩
            · rw [if_neg c9] at H
              exact absurd H (by simp)
          · rw [if_neg c8] at H
            exact absurd H (by simp)
        · rw [if_neg c7] at H
          exact absurd H (by simp)
      · rw [if_neg c6] at H
        have c6b0 : decide (x12_1 < (t1001.length : Int)) = false := decide_eq_false c6
        clear c6
        obtain rfl := Option.some.inj H
        go_wp2
        go_ret
        exact ⟨by first | rfl | (simp [errW_none, errW_some] <;> rfl) | (simp [*, errW_none, errW_some] <;> rfl), by repeat (first | (with_reducible first | exact HB.out | apply below_alloc | apply pw_below_drewN | apply below_drew1) | exact HB.out)⟩

end Go.Proofs.Ytpfjnpbcnlbhaaa.P
namespace Go.Proofs.Ytpfjnpbcnlbhaaa.P
open Go.RowKit Go.Proofs.YtpfjnpbcnlbhaaaW.PrintWords Go.Proofs.YtpfjnpbcnlbhaaaW.PrintLast Go.Proofs.YtpfjnpbcnlbhaaaW.PrintMore
attribute [local go_sem] max2_int min2_int max_two min_two max_three min_three max_four min_four   -- for this text's walks alone
set_option linter.unusedVariables false
set_option linter.unusedSimpArgs false

/-! ### sackbutlaw05_list: function 16 -/
def sackbutlaw05_list.f (l0 : List Int) : Option (List Int) := if 0 ≤ (mn (l0.length : Int) 13) then (if (mn (l0.length : Int) 13) ≤ (l0.length : Int) then ((slices_Clone_int_int.f (l0.take ((mn (l0.length : Int) 13) : Int).toNat)).bind fun t1003 => (some t1003)) else (none)) else (none)
set_option maxHeartbeats 8000000 in
set_option maxRecDepth 100000 in
theorem sackbutlaw05_list.calls (A0 : Option Addr) (c0 : Nat) (l0 : List Int) (r : List Int) (w : World) (hr0 : Kd.C (Kd.int .i64) w A0 l0.length l0) (hc0 : l0.length ≤ c0) (h : sackbutlaw05_list.f l0 = some r) :
    Calls Try.prog 16 #[.slice A0 l0.length c0] w fun e w' => ∃ v0_ : Value, e = .returned (v0_) ∧ Kd.R (Kd.int .i64) 3 w' w.heap.size (fun _ => True) v0_ r ∧ Below w.heap.size w w' := by
  have HR0 := Aside0.mk hr0
  have HC0 := Aside0.mk hc0
  clear hr0 hc0
  have HB := Aside0.mk (Below.refl w.heap.size w)
  have H : (if 0 ≤ (mn (l0.length : Int) 13) then (if (mn (l0.length : Int) 13) ≤ (l0.length : Int) then ((slices_Clone_int_int.f (l0.take ((mn (l0.length : Int) 13) : Int).toNat)).bind fun t1003 => (some t1003)) else (none)) else (none)) = some r := h
  clear h
  obtain ⟨ji2, hji2⟩ : ∃ j_ : Int, (mn (l0.length : Int) 13) = j_ := ⟨_, rfl⟩
  replace H : (if 0 ≤ (ji2) then (if (ji2) ≤ (l0.length : Int) then ((slices_Clone_int_int.f (l0.take ((ji2) : Int).toNat)).bind fun t1003 => (some t1003)) else (none)) else (none)) = some r := by first | (rw [hji2] at H; exact H) | (simp only [hji2] at H ⊢; exact H)
  (try (have hji2h : ji2 ≤ 13 := by (rw [← hji2]; unfold mn; (repeat' split) <;> omega)))
  (try (have hji2g : ji2 ≤ 64 := by omega))
  (try (have hji2l : 0 ≤ ji2 := by (rw [← hji2]; unfold mn; (repeat' split) <;> omega)))
  (try (have hji2m : 0 ≤ ji2 := by omega))
  have hji2_ : (if 13 < (l0.length : Int) then 13 else (l0.length : Int)) = ji2 := hji2
  by_cases c3 : 0 ≤ (ji2)
  · rw [if_pos c3] at H
    have c3b0 := eq_true c3
    have c3b1 : decide (0 ≤ (ji2)) = true := decide_eq_true c3
    clear c3
    by_cases c4 : (ji2) ≤ (l0.length : Int)
    · rw [if_pos c4] at H
      have c4b0 := eq_true c4
      have c4b1 : decide ((ji2) ≤ (l0.length : Int)) = true := decide_eq_true c4
      clear c4
      obtain ⟨y1001, hy1001⟩ : ∃ y_ : List Int, y_ = (l0.take ((ji2) : Int).toNat) := ⟨_, rfl⟩
      replace H : ((slices_Clone_int_int.f y1001).bind fun t1003 => (some t1003)) = some r := by first | (rw [hy1001]; with_reducible exact H) | (have H2_ := (Option.bind_some _ _).symm.trans H; rw [hy1001]; with_reducible exact H2_) | (have H2_ := (Option.bind_some _ _).symm.trans H; with_reducible exact H2_) | with_reducible exact H | (rw [hy1001]; exact H) | exact H
      have Ny1001 := Aside0.mk hy1001
      clear hy1001
      replace H := Option.bind_eq_some_iff.mp H
      obtain ⟨t1003, A50, H⟩ := H
      replace H : (some t1003) = some r := H
      have A5 := Aside0.mk A50
      clear A50
      obtain rfl := Option.some.inj H
      obtain ⟨i06, hi06, _, hsz6, _⟩ := info_parts info3
      obtain ⟨hcut6, hA6, hC6⟩ := print_take_of (P := Try.prog) (Value.int .i64) 0 22 3 .i64 Try.underlying22 hi06 hsz6 A0 c0 l0 (ji2) (of_decide_eq_true (by first | (with_reducible assumption) | assumption)) (of_decide_eq_true (by first | (with_reducible assumption) | assumption)) HC0.out
      (first | rw [← Ny1001.out] at hcut6 hA6 hC6 | (simp only [Int.reduceToNat] at hcut6 hA6 hC6; rw [← Ny1001.out] at hcut6 hA6 hC6))
      have HR1002 := Aside0.mk (Kd.C_of_reads (h1 := fun _ => rfl) (hA6 _ (Kd.reads_of_C HR0.out)))
      have HC1002 := Aside0.mk hC6
      clear hA6 hC6 hi06 hsz6
      go_enter Try.func16, Try.ntmps16
      go_wp2_with (first | ((with_reducible refine gate_callee (f := 36) rfl ?_); refine goesL_ (some 8) rfl rfl Try.func36 (by kernel_rfl) rfl #[.slice A0 y1001.length c0] rfl (by (try simp only [List.map_toArray, List.map_cons, List.map_nil]); first | done | rfl | (simp only [List.length_drop, List.length_take]; rfl)) ?_; (with_reducible refine (slices_Clone_int_int.calls _ _ y1001 t1003 _ ?side1 ?side2 A5.out).mono ?_); (case side1 => repeat (first | exact HR1002.out | (with_reducible refine Kd.C_alloc ?_ _) | (with_reducible refine Kd.C_drewN ?_ _) | (with_reducible refine Kd.C_drew ?_))); (case side2 => exact HC1002.out); rintro e w7 ⟨v1004, rfl, ho0, hb⟩; refine ⟨_, rfl, ?_⟩; have n0_ := Aside0.mk (Kd.R_lower ho0 (below_size (by repeat (first | (with_reducible first | exact HB.out | apply below_alloc | apply pw_below_drewN | apply below_drew1) | exact HB.out)))); have n1_ := Aside0.mk (below_step (by repeat (first | (with_reducible first | exact HB.out | apply below_alloc | apply pw_below_drewN | apply below_drew1) | exact HB.out)) hb); clear HB; have HO1005 := n0_; have HB := n1_; clear n0_ n1_; (try clear hb); (try clear hb2); (try clear hk); (try clear hi); (try clear ho0)))
      go_ret
      exact ⟨_, by first | rfl | (simp [errW_none, errW_some] <;> rfl) | (simp only [← hji2]; first | rfl | (simp [errW_none, errW_some] <;> rfl)) | (simp [*, errW_none, errW_some] <;> rfl), by (with_reducible repeat (first | apply Kd.R_alloc | apply Kd.R_drewN | apply Kd.R_drew)); exact HO1005.out, by repeat (first | (with_reducible first | exact HB.out | apply below_alloc | apply pw_below_drewN | apply below_drew1) | exact HB.out)⟩
    · rw [if_neg c4] at H
      exact absurd H (by simp)
  · rw [if_neg c3] at H
    exact absurd H (by simp)

end Go.Proofs.Ytpfjnpbcnlbhaaa.P
