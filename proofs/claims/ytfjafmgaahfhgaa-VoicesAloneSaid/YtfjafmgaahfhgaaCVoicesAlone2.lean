/- A part of a proof that a law's Go function returns true for every input, laid by this session's program mp.py (which drives the kit's print). Conditions: as each theorem states them. -/
import Derived.StillTailTactics
import Derived.Laws.EntriesVeiled
import Derived.Shelf.Abstract
import Derived.RegionTactic
import Derived.ChangeAlike
import Derived.RangeFuncNested
import Derived.RangeFuncBound
import Derived.RangeFuncCalls
import Derived.RangeFuncLeaves
import Derived.Shelf.RegionOpen
import Derived.Shelf.AbstractIn
import Derived.Sort.QuietIn
import Derived.OwnWalkIn
import Derived.TacticsInMore
import Derived.LoopNIn
import Derived.LoopIn
import Derived.Stop.RegionWithIn
import Derived.Test.YtfjafmgaahfhgaaCVoicesAlone1
namespace Go.Proofs.Ytfjafmgaahfhgaa.P
open Go.RowKit Go.Proofs.YtfjafmgaahfhgaaW.PrintWords Go.Proofs.YtfjafmgaahfhgaaW.PrintLast Go.Proofs.YtfjafmgaahfhgaaW.PrintMore
attribute [local go_sem] max2_int min2_int max_two min_two max_three min_three max_four min_four   -- for this text's walks alone
set_option linter.unusedVariables false
set_option linter.unusedSimpArgs false

/-! voices.best: the first leading with the least price among those that a function lets pass -/
def bstep (pr : List Nat → Int) (p : List Nat → Bool) (s : Option (List Nat) × Int) (l : List Nat) : Option (List Nat) × Int := if (s.1 = none ∨ pr l < s.2) ∧ p l = true then (some l, pr l) else s
def bfold (pr : List Nat → Int) (p : List Nat → Bool) (L : List (List Nat)) : Option (List Nat) × Int := L.foldl (bstep pr p) (none, 0)
theorem bfold_snoc (pr : List Nat → Int) (p : List Nat → Bool) (L : List (List Nat)) (l : List Nat) : bfold pr p (L ++ [l]) = bstep pr p (bfold pr p L) l := by unfold bfold; rw [List.foldl_append]; rfl
def optL (o : Option (List Nat)) : List Int := nums (o.getD [])
theorem R_only {e : Nat} {w : World} {base : Nat} {ok ok' : Nat → Prop} {v : Value} {xs : List Int} (h : Kd.R (Kd.int .i64) e w base ok v xs) (hok : ∀ k, v.ownBlock = some k → ok' k) : Kd.R (Kd.int .i64) e w base ok' v xs := by
  obtain ⟨_, inner, ho, hr⟩ := h
  exact ⟨hok, inner, ho, hr⟩
section
variable (w : World) (n : Int) (Aa : Option Addr) (ca : Nat) (a : List Int) (Ab : Option Addr) (cb : Nat) (b : List Int) (gis : Nat) (lbis : Array Value) (pr : List Nat → Int) (p : List Nat → Bool)
def PB (W : World) (i : Nat) : Prop := i < w.heap.size + 6 ∨ ∃ (A : Addr) (l c : Nat), W.cell? ⟨w.heap.size + 1 + 1 + 1 + 1, 0, none⟩ = some (.slice (some A) l c) ∧ A.block = i
structure BSt (s : List (List Nat)) (W : World) : Prop where
  bl : Below w.heap.size w W
  sz : w.heap.size + 6 ≤ W.heap.size
  c0 : W.cell? ⟨w.heap.size, 0, none⟩ = some (.int .i64 n)
  c1 : W.cell? ⟨w.heap.size + 1, 0, none⟩ = some (.slice Aa a.length ca)
  c2 : W.cell? ⟨w.heap.size + 1 + 1, 0, none⟩ = some (.slice Ab b.length cb)
  c3 : W.cell? ⟨w.heap.size + 1 + 1 + 1, 0, none⟩ = some (.func (.func gis) #[] lbis)
  c4 : ∃ A c, W.cell? ⟨w.heap.size + 1 + 1 + 1 + 1, 0, none⟩ = some (.slice A (optL (bfold pr p s).1).length c) ∧ Kd.R (Kd.int .i64) 3 W (w.heap.size + 10) (PB w W) (.slice A (optL (bfold pr p s).1).length c) (optL (bfold pr p s).1) ∧ A.isNone = (bfold pr p s).1.isNone
  c5 : W.cell? ⟨w.heap.size + 1 + 1 + 1 + 1 + 1, 0, none⟩ = some (.int .i64 (bfold pr p s).2)
  f4 : W.frozen? ⟨w.heap.size + 1 + 1 + 1 + 1, 0, none⟩ = false
  f5 : W.frozen? ⟨w.heap.size + 1 + 1 + 1 + 1 + 1, 0, none⟩ = false
theorem best_inter : Inter (w.heap.size + 6) (PB w) (BSt w n Aa ca a Ab cb b gis lbis pr p) := by
  refine ⟨fun s A B h hf => ?_, fun s A i h hp => ?_, fun s A i h h1 h2 hp => ?_⟩
  · have hc : ∀ i, i < w.heap.size + 6 → B.cell? ⟨i, 0, none⟩ = A.cell? ⟨i, 0, none⟩ := fun i hi => hf.cell (.inl hi) 0
    have hz : ∀ i, i < w.heap.size + 6 → B.frozen? ⟨i, 0, none⟩ = A.frozen? ⟨i, 0, none⟩ := fun i hi => hf.frozen (.inl hi) 0
    have hP : ∀ i, PB w B i ↔ PB w A i := fun i => by unfold PB; rw [hc _ (by omega)]
    obtain ⟨A4, c, h4, hR, hn⟩ := h.c4
    refine ⟨⟨h.bl.trans (hf.below (fun k hk => .inl (by omega))), Nat.le_trans h.sz hf.size, (hc _ (by omega)).trans h.c0, (hc _ (by omega)).trans h.c1, (hc _ (by omega)).trans h.c2, (hc _ (by omega)).trans h.c3, ⟨A4, c, (hc _ (by omega)).trans h4, ?_, hn⟩, (hc _ (by omega)).trans h.c5, (hz _ (by omega)).trans h.f4, (hz _ (by omega)).trans h.f5⟩, hP⟩
    exact Kd.R_mono (Kd.R_move hR (fun k hk => hf.block k hk)) (fun i hi => (hP i).2 hi)
  · have h1 := h.sz
    rcases hp with hp | ⟨A0, l, c, h4, rfl⟩
    · omega
    · obtain ⟨A4, c4, h4', hR, _⟩ := h.c4
      rw [h4] at h4'
      injection h4' with h4'
      injection h4' with e1 e2 e3
      subst e1
      exact Kd.R_lt hR _ rfl
  · rcases hp with hp | ⟨A0, l, c, h4, rfl⟩
    · omega
    · obtain ⟨A4, c4, h4', hR, _⟩ := h.c4
      rw [h4] at h4'
      injection h4' with h4'
      injection h4' with e1 e2 e3
      subst e1
      have := Kd.R_base hR _ rfl
      omega
/-- what the function that lets pass answers -/
def GivesIs (k : Nat) : Prop := ∀ (x : List Nat) (A : Option Addr) (c : Nat) (W : World), x.length = k → (∀ y ∈ x, y < k) → (nums x).length ≤ c → Kd.C (Kd.int .i64) W A (nums x).length (nums x) → Below w.heap.size w W →
  Calls Try.prog gis (#[.slice A (nums x).length c] ++ lbis) W fun e W' => e = .returned (.bool (p x)) ∧ Below W.heap.size W W'
def MoreLb : Array Value := #[.pointer (some ⟨w.heap.size, 0, none⟩), .pointer (some ⟨w.heap.size + 1, 0, none⟩), .pointer (some ⟨w.heap.size + 1 + 1, 0, none⟩), .pointer (some ⟨w.heap.size + 1 + 1 + 1 + 1, 0, none⟩), .pointer (some ⟨w.heap.size + 1 + 1 + 1 + 1 + 1, 0, none⟩), .pointer (some ⟨w.heap.size + 1 + 1 + 1, 0, none⟩)]
theorem clone_f (x : List Nat) (h : x.length ≤ 1000) : slices_Clone_int_int.f (nums x) = some (nums x) := by unfold slices_Clone_int_int.f; rw [if_pos (by rw [nums_length]; omega)]
/-- nothing new is kept -/
theorem BSt.same {s : List (List Nat)} {x : List Nat} {W W' : World} (h : BSt w n Aa ca a Ab cb b gis lbis pr p s W) (hb : Below W.heap.size W W') (he : bstep pr p (bfold pr p s) x = bfold pr p s) :
    BSt w n Aa ca a Ab cb b gis lbis pr p (s ++ [x]) W' ∧ Fr (fun i => w.heap.size + 6 ≤ i ∧ i < W.heap.size) W W' ∧ (∀ i, PB w W' i → PB w W i ∨ W.heap.size ≤ i) := by
  have hI := best_inter w n Aa ca a Ab cb b gis lbis pr p
  have hk := hI.keep s W W' h (Fr.of_below hb (fun k hk => hI.lt s W k h hk))
  have e : bfold pr p (s ++ [x]) = bfold pr p s := by rw [bfold_snoc, he]
  refine ⟨?_, Fr.of_below hb (fun k hk => hk.2), fun i hi => .inl ((hk.2 i).1 hi)⟩
  obtain ⟨h1, h2, h3, h4, h5, h6, h7, h8, h9, h10⟩ := hk.1
  exact ⟨h1, h2, h3, h4, h5, h6, by rw [e]; exact h7, by rw [e]; exact h8, h9, h10⟩
/-- the new leading is kept -/
theorem BSt.put {s : List (List Nat)} {x : List Nat} {W w2 w3 : World} {A : Option Addr} {c : Nat} (h : BSt w n Aa ca a Ab cb b gis lbis pr p s W) (hb : Below W.heap.size W w2) (hb2 : Below w2.heap.size w2 w3)
    (hR : Kd.R (Kd.int .i64) 3 w3 w2.heap.size (fun _ => True) (.slice A (nums x).length c) (nums x)) (hx : 1 ≤ x.length) (hsz : w.heap.size + 10 ≤ W.heap.size) (he : bstep pr p (bfold pr p s) x = (some x, pr x)) :
    BSt w n Aa ca a Ab cb b gis lbis pr p (s ++ [x]) ((w3.setCell ⟨w.heap.size + 1 + 1 + 1 + 1, 0, none⟩ (.slice A (nums x).length c)).setCell ⟨w.heap.size + 1 + 1 + 1 + 1 + 1, 0, none⟩ (.int .i64 (pr x))) ∧
      Fr (fun i => w.heap.size + 6 ≤ i ∧ i < W.heap.size) W ((w3.setCell ⟨w.heap.size + 1 + 1 + 1 + 1, 0, none⟩ (.slice A (nums x).length c)).setCell ⟨w.heap.size + 1 + 1 + 1 + 1 + 1, 0, none⟩ (.int .i64 (pr x))) ∧
      (∀ i, PB w ((w3.setCell ⟨w.heap.size + 1 + 1 + 1 + 1, 0, none⟩ (.slice A (nums x).length c)).setCell ⟨w.heap.size + 1 + 1 + 1 + 1 + 1, 0, none⟩ (.int .i64 (pr x))) i → PB w W i ∨ W.heap.size ≤ i) := by
  have hb3 : Below W.heap.size W w3 := hb.trans (hb2.mono hb.size)
  have hA : ∃ ad, A = some ad := by
    obtain ⟨ad, e, _⟩ := Kd.at_int (Kd.R_reads' hR).2.2 0 (by omega) (by rw [nums_length]; omega)
    exact ⟨ad, e⟩
  obtain ⟨ad, rfl⟩ := hA
  have hbase : w2.heap.size ≤ ad.block := Kd.R_base hR _ rfl
  have hlt : ad.block < w3.heap.size := Kd.R_lt hR _ rfl
  have hs2 := hb.size
  have hs3 := hb2.size
  obtain ⟨W', hW'⟩ : ∃ W', (w3.setCell ⟨w.heap.size + 1 + 1 + 1 + 1, 0, none⟩ (.slice (some ad) (nums x).length c)).setCell ⟨w.heap.size + 1 + 1 + 1 + 1 + 1, 0, none⟩ (.int .i64 (pr x)) = W' := ⟨_, rfl⟩
  have hblk : ∀ i, i ≠ w.heap.size + 4 → i ≠ w.heap.size + 5 → W'.heap[i]? = w3.heap[i]? := fun i h1 h2 => by
    rw [← hW']
    exact (Below.heap_setCell _ _ _ _ (by simp only [ne_eq]; omega)).trans (Below.heap_setCell _ _ _ _ (by simp only [ne_eq]; omega))
  have hc3 : ∀ i, i < w.heap.size + 6 → w3.cell? ⟨i, 0, none⟩ = W.cell? ⟨i, 0, none⟩ := fun i hi => hb3.cell (p := ⟨i, 0, none⟩) (by simp only; omega)
  have hcell : ∀ i, i < w.heap.size + 4 → W'.cell? ⟨i, 0, none⟩ = W.cell? ⟨i, 0, none⟩ := fun i hi => (by unfold World.cell?; simp only [hblk i (by omega) (by omega)] : W'.cell? ⟨i, 0, none⟩ = w3.cell? ⟨i, 0, none⟩).trans (hc3 i (by omega))
  have h4o : (w3.cell? ⟨w.heap.size + 1 + 1 + 1 + 1, 0, none⟩).isSome = true := by
    rw [hc3 _ (by omega)]; obtain ⟨A, c, h4, _⟩ := h.c4; rw [h4]; rfl
  have h5o : (w3.cell? ⟨w.heap.size + 1 + 1 + 1 + 1 + 1, 0, none⟩).isSome = true := by rw [hc3 _ (by omega), h.c5]; rfl
  have n4 : W'.cell? ⟨w.heap.size + 1 + 1 + 1 + 1, 0, none⟩ = some (.slice (some ad) (nums x).length c) := by
    rw [← hW']
    exact (World.cell?_setCell_far _ _ _ _ (by simp only [ne_eq]; omega)).trans (World.cell?_setCell_same' _ _ _ h4o)
  have n5 : W'.cell? ⟨w.heap.size + 1 + 1 + 1 + 1 + 1, 0, none⟩ = some (.int .i64 (pr x)) := by
    rw [← hW']
    exact World.cell?_setCell_same' _ _ _ (by rw [World.cell?_setCell_far _ _ _ _ (by simp only [ne_eq]; omega)]; exact h5o)
  have hfz : ∀ i, i < w.heap.size + 6 → W'.frozen? ⟨i, 0, none⟩ = W.frozen? ⟨i, 0, none⟩ := fun i hi => by
    rw [← hW', World.frozen?_setCell, World.frozen?_setCell]
    exact hb3.frozen (p := ⟨i, 0, none⟩) (by simp only; omega)
  have hsz' : W'.heap.size = w3.heap.size := by rw [← hW']; simp [World.setCell]
  have hP : ∀ i, PB w W' i ↔ (i < w.heap.size + 6 ∨ ad.block = i) := fun i => by
    unfold PB
    rw [n4]
    constructor
    · rintro (h | ⟨A0, l0, c0, e, rfl⟩)
      · exact .inl h
      · injection e with e; injection e with e; injection e with e; exact .inr (by rw [e])
    · rintro (h | rfl)
      · exact .inl h
      · exact .inr ⟨ad, _, _, rfl, rfl⟩
  have hfr : Fr (fun i => w.heap.size + 6 ≤ i ∧ i < W.heap.size) W W' := by
    refine (Fr.of_below hb3 (fun k hk => hk.2)).trans ?_
    rw [← hW']
    exact (Fr.setCell _ _ (by simp only; omega)).trans (Fr.setCell _ _ (by simp only; omega))
  have hbw : Below w.heap.size w W' := by
    rw [← hW']
    exact (((h.bl.trans (hb3.mono h.bl.size)).setCell (p := ⟨w.heap.size + 1 + 1 + 1 + 1, 0, none⟩) (by simp only; omega) _).setCell (p := ⟨w.heap.size + 1 + 1 + 1 + 1 + 1, 0, none⟩) (by simp only; omega) _)
  have e : bfold pr p (s ++ [x]) = (some x, pr x) := by rw [bfold_snoc, he]
  rw [hW']
  refine ⟨⟨hbw, by omega, (hcell _ (by omega)).trans h.c0, (hcell _ (by omega)).trans h.c1, (hcell _ (by omega)).trans h.c2, (hcell _ (by omega)).trans h.c3, ⟨some ad, c, by rw [e]; exact n4, ?_, by rw [e]; rfl⟩, by rw [e]; exact n5, (hfz _ (by omega)).trans h.f4, (hfz _ (by omega)).trans h.f5⟩, hfr, fun i hi => ?_⟩
  · rw [e]
    have h1 := Kd.R_move (w1 := W') (R_only hR (ok' := fun k => k = ad.block) (fun k hk => by simpa [Value.ownBlock] using hk.symm)) (fun k hk => hblk k (by omega) (by omega))
    exact Kd.R_lower (Kd.R_mono h1 (fun k hk => (hP k).2 (.inr hk.symm))) (by omega)
  · rcases (hP i).1 hi with h1 | rfl
    · exact .inl (.inl h1)
    · exact .inr (by omega)
theorem C_below_ {A : Option Addr} {m : Nat} {xs : List Int} {W W' : World} (h : Kd.C (Kd.int .i64) W A m xs) (hb : Below W.heap.size W W') : Kd.C (Kd.int .i64) W' A m xs := Kd.C_below h hb
set_option maxHeartbeats 8000000 in
set_option maxRecDepth 100000 in
theorem best_more (egis : ∀ args w, (callFunc gis args).run Try.prog w = .ok (.enter gis args) w) (k : Nat) (hk1 : 1 ≤ k) (hk2 : k ≤ 20) (hp : GivesIs w gis lbis p k) (hpr : ∀ x : List Nat, x.length = k → (∀ y ∈ x, y < k) → ∃ kk, voices_circle_price.f kk n a b (nums x) = some (pr x)) (hra : Kd.C (Kd.int .i64) w Aa a.length a) (hca : a.length ≤ ca) (hrb : Kd.C (Kd.int .i64) w Ab b.length b) (hcb : b.length ≤ cb) :
    MoreCalls (w.heap.size + 6) k 63 (MoreLb w) (PB w) (BSt w n Aa ca a Ab cb b gis lbis pr p) := by
  intro pre x A c W hJ hx hxl hc hC hA
  obtain ⟨kk, hkk⟩ := hpr x hx hxl
  have HX1 := Aside0.mk (show 1 ≤ x.length by omega)
  have HSZ : Aside0 (w.heap.size + 10 ≤ W.heap.size) := ⟨by
    obtain ⟨ad, e, hcell⟩ := Kd.at_int hC 0 (by omega) (by rw [nums_length]; omega)
    have h1 := hA ad e
    have h2 := World.block_lt_of_cell? W _ hcell
    have h3 : (ad.add (0 : Int).toNat).block = ad.block := rfl
    rw [h3] at h2
    omega⟩
  have HBS := Aside0.mk hJ
  have HCF := Aside0.mk (clone_f x (by omega))
  have HKC := Aside0.mk hC
  have HCC := Aside0.mk hc
  have HPR := Aside0.mk (voices_circle_price.calls kk n Aa ca a Ab cb b A c (nums x) (pr x) W (Kd.C_below hra hJ.bl) hca (Kd.C_below hrb hJ.bl) hcb hC hc hkk)
  have HIS := Aside0.mk (fun (w1 : World) (hb : Below W.heap.size W w1) => hp x A c w1 hx hxl hc (Kd.C_below hC hb) (hJ.bl.trans (hb.mono hJ.bl.size)))
  have c0 := hJ.c0
  have c1 := hJ.c1
  have c2 := hJ.c2
  have c3 := hJ.c3
  have c5 := hJ.c5
  obtain ⟨A4, cc4, c4, -, hn4⟩ := hJ.c4
  have q22 : ∀ (w : World) (a : Option Addr) (n c n' c' : Nat), (binOp .eql 23 (.slice a n c) (.slice none n' c')).run Try.prog w = .ok (.bool a.isNone) w := fun w a n c n' c' => Lib.run_eql_slice_nil w _ _ a n c n' c' Try.underlying23
  generalize hL4 : (optL (bfold pr p pre).1).length = l4 at c4
  clear hL4
  have HN4 := Aside0.mk hn4
  have hsz6 := hJ.sz
  have HSW := Aside0.mk hJ.bl.size
  have hszW : w.heap.size + 10 ≤ W.heap.size := HSZ.out
  generalize hs2 : (bfold pr p pre).2 = s2 at c5
  have HS2 := Aside0.mk hs2
  clear hs2 hn4 hJ hC hA hkk hpr hp hx hxl hra hrb
  generalize hnx : (nums x).length = lx at *
  have HNX := Aside0.mk hnx
  clear hnx
  obtain ⟨px, hpx⟩ : ∃ px, p x = px := ⟨_, rfl⟩
  have HPX := Aside0.mk hpx
  rw [hpx] at HIS
  clear hpx
  obtain ⟨cx, hcx⟩ : ∃ cx, pr x = cx := ⟨_, rfl⟩
  have HCX := Aside0.mk hcx
  rw [hcx] at HPR
  clear hcx
  unfold MoreLb
  cases hs1 : (bfold pr p pre).1 with
  | none =>
    rw [hs1] at HN4
    have hA4 : A4 = none := by have := HN4.out; cases A4 with
      | none => rfl
      | some _ => cases this
    subst hA4
    have HS1 := Aside0.mk hs1
    clear hs1 HN4
    cases px with
    | true =>
      have H4 := Aside0.mk c4
      have H5 := Aside0.mk c5
      have HE : Aside0 (bstep pr p (bfold pr p pre) x = (some x, pr x)) := ⟨by unfold bstep; rw [if_pos ⟨.inl HS1.out, HPX.out⟩]⟩
      go_enter Try.func63, Try.ntmps63
      go_wp2_with fail
      refine HPR.out.mono ?_
      rintro e w1 ⟨rfl, hb1⟩
      have d3 : w1.cell? ⟨w.heap.size + 1 + 1 + 1, 0, none⟩ = some (.func (.func gis) #[] lbis) := (hb1.cell (p := ⟨w.heap.size + 1 + 1 + 1, 0, none⟩) (by simp only; omega)).trans c3
      have d4 : w1.cell? ⟨w.heap.size + 1 + 1 + 1 + 1, 0, none⟩ = some (.slice none l4 cc4) := (hb1.cell (p := ⟨w.heap.size + 1 + 1 + 1 + 1, 0, none⟩) (by simp only; omega)).trans c4
      have d5 : w1.cell? ⟨w.heap.size + 1 + 1 + 1 + 1 + 1, 0, none⟩ = some (.int .i64 s2) := (hb1.cell (p := ⟨w.heap.size + 1 + 1 + 1 + 1 + 1, 0, none⟩) (by simp only; omega)).trans c5
      have HB1 := Aside0.mk hb1
      clear hb1 c0 c1 c2 c3 c4 c5
      go_wp2_with fail
      refine (HIS.out w1 HB1.out).mono ?_
      rintro e w2 ⟨rfl, hb2⟩
      have HB2 := Aside0.mk (HB1.out.trans (hb2.mono HB1.out.size))
      clear hb2
      have HCL := slices_Clone_int_int.calls A c (nums x) (nums x) w2 (HNX.out.symm ▸ C_below_ HKC.out HB2.out) (HNX.out.symm ▸ HCC.out) HCF.out
      rw [HNX.out] at HCL
      have HCL2 := Aside0.mk HCL
      clear HCL d3 d4 d5
      go_wp2_with fail
      refine HCL2.out.mono ?_
      rintro e w3 ⟨v0, rfl, hr3, hb3⟩
      obtain ⟨A9, c9, e9⟩ := Kd.R_slice hr3
      rw [HNX.out] at e9
      subst e9
      have hsw2 := HB2.out.size
      have k4 : w3.cell? ⟨w.heap.size + 1 + 1 + 1 + 1, 0, none⟩ = some (.slice none l4 cc4) := (hb3.cell (p := ⟨w.heap.size + 1 + 1 + 1 + 1, 0, none⟩) (by simp only; omega)).trans ((HB2.out.cell (p := ⟨w.heap.size + 1 + 1 + 1 + 1, 0, none⟩) (by simp only; omega)).trans H4.out)
      have k5 : w3.cell? ⟨w.heap.size + 1 + 1 + 1 + 1 + 1, 0, none⟩ = some (.int .i64 s2) := (hb3.cell (p := ⟨w.heap.size + 1 + 1 + 1 + 1 + 1, 0, none⟩) (by simp only; omega)).trans ((HB2.out.cell (p := ⟨w.heap.size + 1 + 1 + 1 + 1 + 1, 0, none⟩) (by simp only; omega)).trans H5.out)
      have z4 : w3.frozen? ⟨w.heap.size + 1 + 1 + 1 + 1, 0, none⟩ = false := (hb3.frozen (p := ⟨w.heap.size + 1 + 1 + 1 + 1, 0, none⟩) (by simp only; omega)).trans ((HB2.out.frozen (p := ⟨w.heap.size + 1 + 1 + 1 + 1, 0, none⟩) (by simp only; omega)).trans HBS.out.f4)
      have z5 : w3.frozen? ⟨w.heap.size + 1 + 1 + 1 + 1 + 1, 0, none⟩ = false := (hb3.frozen (p := ⟨w.heap.size + 1 + 1 + 1 + 1 + 1, 0, none⟩) (by simp only; omega)).trans ((HB2.out.frozen (p := ⟨w.heap.size + 1 + 1 + 1 + 1 + 1, 0, none⟩) (by simp only; omega)).trans HBS.out.f5)
      have HR3 := Aside0.mk hr3
      have HB3 := Aside0.mk hb3
      clear hr3 hb3
      go_wp2
      go_ret
      have hr := HR3.out
      rw [← HNX.out] at hr ⊢
      have hput := HBS.out.put w n Aa ca a Ab cb b gis lbis pr p HB2.out HB3.out hr HX1.out HSZ.out HE.out
      rw [HCX.out] at hput
      exact ⟨rfl, hput⟩
    | false =>
      have HE : Aside0 (bstep pr p (bfold pr p pre) x = bfold pr p pre) := ⟨by unfold bstep; rw [if_neg (fun h => by have := HPX.out; rw [h.2] at this; cases this)]⟩
      go_enter Try.func63, Try.ntmps63
      go_wp2_with fail
      refine HPR.out.mono ?_
      rintro e w1 ⟨rfl, hb1⟩
      have d3 : w1.cell? ⟨w.heap.size + 1 + 1 + 1, 0, none⟩ = some (.func (.func gis) #[] lbis) := (hb1.cell (p := ⟨w.heap.size + 1 + 1 + 1, 0, none⟩) (by simp only; omega)).trans c3
      have d4 : w1.cell? ⟨w.heap.size + 1 + 1 + 1 + 1, 0, none⟩ = some (.slice none l4 cc4) := (hb1.cell (p := ⟨w.heap.size + 1 + 1 + 1 + 1, 0, none⟩) (by simp only; omega)).trans c4
      have d5 : w1.cell? ⟨w.heap.size + 1 + 1 + 1 + 1 + 1, 0, none⟩ = some (.int .i64 s2) := (hb1.cell (p := ⟨w.heap.size + 1 + 1 + 1 + 1 + 1, 0, none⟩) (by simp only; omega)).trans c5
      have HB1 := Aside0.mk hb1
      clear hb1 c0 c1 c2 c3 c4 c5
      go_wp2_with fail
      refine (HIS.out w1 HB1.out).mono ?_
      rintro e w2 ⟨rfl, hb2⟩
      have HB2 := Aside0.mk (HB1.out.trans (hb2.mono HB1.out.size))
      clear hb2
      go_wp2
      go_ret
      exact ⟨rfl, HBS.out.same w n Aa ca a Ab cb b gis lbis pr p HB2.out HE.out⟩
  | some y =>
    rw [hs1] at HN4
    obtain ⟨ad4, hA4⟩ : ∃ ad4, A4 = some ad4 := by have := HN4.out; cases A4 with
      | none => cases this
      | some ad4 => exact ⟨ad4, rfl⟩
    subst hA4
    have HS1 := Aside0.mk (show (bfold pr p pre).1 ≠ none by rw [hs1]; simp)
    clear hs1 HN4
    by_cases hlt : cx < s2
    · have q1 : decide (cx < s2) = true := decide_eq_true hlt
      have HLT := Aside0.mk hlt
      clear hlt
      cases px with
      | true =>
        have H4 := Aside0.mk c4
        have H5 := Aside0.mk c5
        have HE : Aside0 (bstep pr p (bfold pr p pre) x = (some x, pr x)) := ⟨by unfold bstep; rw [if_pos ⟨.inr (by rw [HCX.out, HS2.out]; exact HLT.out), HPX.out⟩]⟩
        go_enter Try.func63, Try.ntmps63
        go_wp2_with fail
        refine HPR.out.mono ?_
        rintro e w1 ⟨rfl, hb1⟩
        have d3 : w1.cell? ⟨w.heap.size + 1 + 1 + 1, 0, none⟩ = some (.func (.func gis) #[] lbis) := (hb1.cell (p := ⟨w.heap.size + 1 + 1 + 1, 0, none⟩) (by simp only; omega)).trans c3
        have d4 : w1.cell? ⟨w.heap.size + 1 + 1 + 1 + 1, 0, none⟩ = some (.slice (some ad4) l4 cc4) := (hb1.cell (p := ⟨w.heap.size + 1 + 1 + 1 + 1, 0, none⟩) (by simp only; omega)).trans c4
        have d5 : w1.cell? ⟨w.heap.size + 1 + 1 + 1 + 1 + 1, 0, none⟩ = some (.int .i64 s2) := (hb1.cell (p := ⟨w.heap.size + 1 + 1 + 1 + 1 + 1, 0, none⟩) (by simp only; omega)).trans c5
        have HB1 := Aside0.mk hb1
        clear hb1 c0 c1 c2 c3 c4 c5
        go_wp2_with fail
        refine (HIS.out w1 HB1.out).mono ?_
        rintro e w2 ⟨rfl, hb2⟩
        have HB2 := Aside0.mk (HB1.out.trans (hb2.mono HB1.out.size))
        clear hb2
        have HCL := slices_Clone_int_int.calls A c (nums x) (nums x) w2 (HNX.out.symm ▸ C_below_ HKC.out HB2.out) (HNX.out.symm ▸ HCC.out) HCF.out
        rw [HNX.out] at HCL
        have HCL2 := Aside0.mk HCL
        clear HCL d3 d4 d5
        go_wp2_with fail
        refine HCL2.out.mono ?_
        rintro e w3 ⟨v0, rfl, hr3, hb3⟩
        obtain ⟨A9, c9, e9⟩ := Kd.R_slice hr3
        rw [HNX.out] at e9
        subst e9
        have hsw2 := HB2.out.size
        have k4 : w3.cell? ⟨w.heap.size + 1 + 1 + 1 + 1, 0, none⟩ = some (.slice (some ad4) l4 cc4) := (hb3.cell (p := ⟨w.heap.size + 1 + 1 + 1 + 1, 0, none⟩) (by simp only; omega)).trans ((HB2.out.cell (p := ⟨w.heap.size + 1 + 1 + 1 + 1, 0, none⟩) (by simp only; omega)).trans H4.out)
        have k5 : w3.cell? ⟨w.heap.size + 1 + 1 + 1 + 1 + 1, 0, none⟩ = some (.int .i64 s2) := (hb3.cell (p := ⟨w.heap.size + 1 + 1 + 1 + 1 + 1, 0, none⟩) (by simp only; omega)).trans ((HB2.out.cell (p := ⟨w.heap.size + 1 + 1 + 1 + 1 + 1, 0, none⟩) (by simp only; omega)).trans H5.out)
        have z4 : w3.frozen? ⟨w.heap.size + 1 + 1 + 1 + 1, 0, none⟩ = false := (hb3.frozen (p := ⟨w.heap.size + 1 + 1 + 1 + 1, 0, none⟩) (by simp only; omega)).trans ((HB2.out.frozen (p := ⟨w.heap.size + 1 + 1 + 1 + 1, 0, none⟩) (by simp only; omega)).trans HBS.out.f4)
        have z5 : w3.frozen? ⟨w.heap.size + 1 + 1 + 1 + 1 + 1, 0, none⟩ = false := (hb3.frozen (p := ⟨w.heap.size + 1 + 1 + 1 + 1 + 1, 0, none⟩) (by simp only; omega)).trans ((HB2.out.frozen (p := ⟨w.heap.size + 1 + 1 + 1 + 1 + 1, 0, none⟩) (by simp only; omega)).trans HBS.out.f5)
        have HR3 := Aside0.mk hr3
        have HB3 := Aside0.mk hb3
        clear hr3 hb3
        go_wp2
        go_ret
        have hr := HR3.out
        rw [← HNX.out] at hr ⊢
        have hput := HBS.out.put w n Aa ca a Ab cb b gis lbis pr p HB2.out HB3.out hr HX1.out HSZ.out HE.out
        rw [HCX.out] at hput
        exact ⟨rfl, hput⟩
      | false =>
        have HE : Aside0 (bstep pr p (bfold pr p pre) x = bfold pr p pre) := ⟨by unfold bstep; rw [if_neg (fun h => by have := HPX.out; rw [h.2] at this; cases this)]⟩
        go_enter Try.func63, Try.ntmps63
        go_wp2_with fail
        refine HPR.out.mono ?_
        rintro e w1 ⟨rfl, hb1⟩
        have d3 : w1.cell? ⟨w.heap.size + 1 + 1 + 1, 0, none⟩ = some (.func (.func gis) #[] lbis) := (hb1.cell (p := ⟨w.heap.size + 1 + 1 + 1, 0, none⟩) (by simp only; omega)).trans c3
        have d4 : w1.cell? ⟨w.heap.size + 1 + 1 + 1 + 1, 0, none⟩ = some (.slice (some ad4) l4 cc4) := (hb1.cell (p := ⟨w.heap.size + 1 + 1 + 1 + 1, 0, none⟩) (by simp only; omega)).trans c4
        have d5 : w1.cell? ⟨w.heap.size + 1 + 1 + 1 + 1 + 1, 0, none⟩ = some (.int .i64 s2) := (hb1.cell (p := ⟨w.heap.size + 1 + 1 + 1 + 1 + 1, 0, none⟩) (by simp only; omega)).trans c5
        have HB1 := Aside0.mk hb1
        clear hb1 c0 c1 c2 c3 c4 c5
        go_wp2_with fail
        refine (HIS.out w1 HB1.out).mono ?_
        rintro e w2 ⟨rfl, hb2⟩
        have HB2 := Aside0.mk (HB1.out.trans (hb2.mono HB1.out.size))
        clear hb2
        go_wp2
        go_ret
        exact ⟨rfl, HBS.out.same w n Aa ca a Ab cb b gis lbis pr p HB2.out HE.out⟩
    · have q1 : decide (cx < s2) = false := decide_eq_false hlt
      have HE : Aside0 (bstep pr p (bfold pr p pre) x = bfold pr p pre) := ⟨by unfold bstep; rw [if_neg (fun h => by
            rcases h.1 with h1 | h1
            · exact HS1.out h1
            · rw [HCX.out, HS2.out] at h1; exact hlt h1)]⟩
      clear hlt
      go_enter Try.func63, Try.ntmps63
      go_wp2_with fail
      refine HPR.out.mono ?_
      rintro e w1 ⟨rfl, hb1⟩
      have d3 : w1.cell? ⟨w.heap.size + 1 + 1 + 1, 0, none⟩ = some (.func (.func gis) #[] lbis) := (hb1.cell (p := ⟨w.heap.size + 1 + 1 + 1, 0, none⟩) (by simp only; omega)).trans c3
      have d4 : w1.cell? ⟨w.heap.size + 1 + 1 + 1 + 1, 0, none⟩ = some (.slice (some ad4) l4 cc4) := (hb1.cell (p := ⟨w.heap.size + 1 + 1 + 1 + 1, 0, none⟩) (by simp only; omega)).trans c4
      have d5 : w1.cell? ⟨w.heap.size + 1 + 1 + 1 + 1 + 1, 0, none⟩ = some (.int .i64 s2) := (hb1.cell (p := ⟨w.heap.size + 1 + 1 + 1 + 1 + 1, 0, none⟩) (by simp only; omega)).trans c5
      have HB1 := Aside0.mk hb1
      clear hb1 c0 c1 c2 c3 c4 c5
      go_wp2
      go_ret
      exact ⟨rfl, HBS.out.same w n Aa ca a Ab cb b gis lbis pr p HB1.out HE.out⟩
-- ways end
end

end Go.Proofs.Ytfjafmgaahfhgaa.P
namespace Go.Proofs.Ytfjafmgaahfhgaa.P
open Go.RowKit Go.Proofs.YtfjafmgaahfhgaaW.PrintWords Go.Proofs.YtfjafmgaahfhgaaW.PrintLast Go.Proofs.YtfjafmgaahfhgaaW.PrintMore
attribute [local go_sem] max2_int min2_int max_two min_two max_three min_three max_four min_four   -- for this text's walks alone
set_option linter.unusedVariables false
set_option linter.unusedSimpArgs false

def BestPost (w : World) (o : Option (List Nat)) (c : Int) (e : Ending) (w' : World) : Prop := ∃ A cc, e = .returned (.tuple #[.slice A (optL o).length cc, .int .i64 c]) ∧ Kd.R (Kd.int .i64) 3 w' w.heap.size (fun _ => True) (.slice A (optL o).length cc) (optL o) ∧ A.isNone = o.isNone ∧ Below w.heap.size w w'
theorem six_new (w : World) (v0 v1 v2 v3 v4 v5 : Value) (t0 t1 t2 t3 t4 t5 : TypeId) (W0 : World) (h : (((((w.alloc (.cells #[v0] t0)).alloc (.cells #[v1] t1)).alloc (.cells #[v2] t2)).alloc (.cells #[v3] t3)).alloc (.cells #[v4] t4)).alloc (.cells #[v5] t5) = W0) :
    W0.cell? ⟨w.heap.size, 0, none⟩ = some v0 ∧ W0.cell? ⟨w.heap.size + 1, 0, none⟩ = some v1 ∧ W0.cell? ⟨w.heap.size + 1 + 1, 0, none⟩ = some v2 ∧ W0.cell? ⟨w.heap.size + 1 + 1 + 1, 0, none⟩ = some v3 ∧ W0.cell? ⟨w.heap.size + 1 + 1 + 1 + 1, 0, none⟩ = some v4 ∧ W0.cell? ⟨w.heap.size + 1 + 1 + 1 + 1 + 1, 0, none⟩ = some v5 ∧
      W0.frozen? ⟨w.heap.size + 1 + 1 + 1 + 1, 0, none⟩ = false ∧ W0.frozen? ⟨w.heap.size + 1 + 1 + 1 + 1 + 1, 0, none⟩ = false ∧ W0.heap.size = w.heap.size + 6 ∧ Below w.heap.size w W0 := by
  obtain ⟨W4, h4⟩ : ∃ W4, (((w.alloc (.cells #[v0] t0)).alloc (.cells #[v1] t1)).alloc (.cells #[v2] t2)).alloc (.cells #[v3] t3) = W4 := ⟨_, rfl⟩
  rw [h4] at h
  obtain ⟨c0, c1, c2, c3, _, _, z4, B4⟩ := four_new w v0 v1 v2 v3 t0 t1 t2 t3 _ rfl W4 h4
  subst h
  have a4 := new_cell W4 v4 t4
  have a5 := new_cell (W4.alloc (.cells #[v4] t4)) v5 t5
  simp only [World.size_alloc, z4] at a4 a5
  refine ⟨old_cell _ (old_cell _ c0), old_cell _ (old_cell _ c1), old_cell _ (old_cell _ c2), old_cell _ (old_cell _ c3), old_cell _ a4.1, a5.1, old_frozen _ a4.1 a4.2, a5.2, by simp [World.size_alloc, z4], below_alloc (below_alloc B4 _) _⟩
section
variable (w : World) (n : Int) (Aa : Option Addr) (ca : Nat) (a : List Int) (Ab : Option Addr) (cb : Nat) (b : List Int) (gis : Nat) (lbis : Array Value) (pr : List Nat → Int) (p : List Nat → Bool)
set_option maxHeartbeats 8000000 in
set_option maxRecDepth 100000 in
theorem best_calls (egis : ∀ args w, (callFunc gis args).run Try.prog w = .ok (.enter gis args) w) (k : Nat) (hka : a.length = k) (hk1 : 1 ≤ k) (hk2 : k ≤ 20) (hp : GivesIs w gis lbis p k) (hpr : ∀ x : List Nat, x.length = k → (∀ y ∈ x, y < k) → ∃ kk, voices_circle_price.f kk n a b (nums x) = some (pr x)) (hra : Kd.C (Kd.int .i64) w Aa a.length a) (hca : a.length ≤ ca) (hrb : Kd.C (Kd.int .i64) w Ab b.length b) (hcb : b.length ≤ cb) :
    Calls Try.prog 38 #[.int .i64 n, .slice Aa a.length ca, .slice Ab b.length cb, .func (.func gis) #[] lbis] w (BestPost w (bfold pr p (ldg k k 0 [])).1 (bfold pr p (ldg k k 0 [])).2) := by
  subst hka
  have HM := Aside0.mk (best_more w n Aa ca a Ab cb b gis lbis pr p egis a.length hk1 hk2 hp hpr hra hca hrb hcb)
  have hmf : ∀ (fn : Fn) (first cap : Array Value) (w : World), (Instr.makeFunc fn first cap).run Try.prog w = .ok (.func fn first cap) w := fun _ _ _ _ => rfl
  have HK2 := Aside0.mk hk2
  have HRA := Aside0.mk hra
  clear hp hpr hra hrb hcb hca hk1 hk2
  generalize hal : a.length = la at *
  have HAL := Aside0.mk hal
  clear hal
  generalize hbl : b.length = lbb at *
  have HBL := Aside0.mk hbl
  clear hbl
  generalize hst : bfold pr p (ldg la la 0 []) = st
  have HST := Aside0.mk hst
  clear hst
  go_enter Try.func38, Try.ntmps38
  go_wp2_with fail
  obtain ⟨W0, hW0⟩ : ∃ W0, (((((w.alloc (.cells #[.int .i64 n] 59)).alloc (.cells #[.slice Aa la ca] 23)).alloc (.cells #[.slice Ab lbb cb] 23)).alloc (.cells #[.func (.func gis) #[] lbis] 33)).alloc (.cells #[.slice none 0 0] 23)).alloc (.cells #[.int .i64 0] 3) = W0 := ⟨_, rfl⟩
  obtain ⟨c0, c1, c2, c3, c4, c5, f4, f5, z, B0⟩ := six_new w _ _ _ _ _ _ _ _ _ _ _ _ W0 hW0
  rw [hW0]
  have hrun := leadings_calls (S := w.heap.size + 6) (enters_of Try.func63 (by kernel_rfl) rfl) HK2.out (best_inter w n Aa ca a Ab cb b gis lbis pr p) HM.out W0 z.symm (fun W hW => by
    have hc : ∀ i, i < w.heap.size + 6 → W.cell? ⟨i, 0, none⟩ = W0.cell? ⟨i, 0, none⟩ := fun i hi => hW.cell (p := ⟨i, 0, none⟩) hi
    have hz : ∀ i, i < w.heap.size + 6 → W.frozen? ⟨i, 0, none⟩ = W0.frozen? ⟨i, 0, none⟩ := fun i hi => hW.frozen (p := ⟨i, 0, none⟩) hi
    refine ⟨⟨B0.trans (hW.mono (by omega)), by have := hW.size; omega, (hc _ (by omega)).trans c0, by rw [HAL.out]; exact (hc _ (by omega)).trans c1, by rw [HBL.out]; exact (hc _ (by omega)).trans c2, (hc _ (by omega)).trans c3, ⟨none, 0, (hc _ (by omega)).trans c4, ?_, rfl⟩, (hc _ (by omega)).trans c5, (hz _ (by omega)).trans f4, (hz _ (by omega)).trans f5⟩, fun i hi => ?_⟩
    · exact Kd.R_nil _ _ _ _ _
    · rcases hi with hi | ⟨A0, l, c, e, _⟩
      · exact hi
      · rw [(hc _ (by omega)).trans c4] at e; cases e)
  unfold MoreLb at hrun
  have HR := Aside0.mk hrun
  clear hW0 c0 c1 c2 c3 c4 c5 f4 f5 z B0 hrun
  refine HR.out.mono ?_
  rintro e w2 ⟨⟨rv, rfl⟩, hB⟩
  have HB := Aside0.mk hB
  obtain ⟨A4, cc4, c4, hR4, hn4⟩ := hB.c4
  have c5 := hB.c5
  have f4 := hB.f4
  have f5 := hB.f5
  have HR4 := Aside0.mk hR4
  have HN4 := Aside0.mk hn4
  clear HR hR4 hn4 hB
  rw [HST.out] at c4 c5 HR4 HN4
  go_wp2
  go_region
  obtain ⟨W3, hW3⟩ : ∃ W3, ((w2.setCell ⟨w.heap.size + 1 + 1 + 1 + 1, 0, none⟩ (.slice A4 (optL st.1).length cc4)).setCell ⟨w.heap.size + 1 + 1 + 1 + 1 + 1, 0, none⟩ (.int .i64 st.2)) = W3 := ⟨_, rfl⟩
  have e5 : W3.cell? ⟨w.heap.size + 1 + 1 + 1 + 1 + 1, 0, none⟩ = some (.int .i64 st.2) := by
    rw [← hW3]; exact World.cell?_setCell_same' _ _ _ (by rw [World.cell?_setCell_far _ _ _ _ (by simp only [ne_eq]; omega), c5]; rfl)
  have e4 : W3.cell? ⟨w.heap.size + 1 + 1 + 1 + 1, 0, none⟩ = some (.slice A4 (optL st.1).length cc4) := by
    rw [← hW3, World.cell?_setCell_far _ _ _ _ (by simp only [ne_eq]; omega)]; exact World.cell?_setCell_same' _ _ _ (by rw [c4]; rfl)
  have HW : Aside0 (Below w.heap.size w W3) := ⟨by rw [← hW3]; exact ((HB.out.bl.setCell (p := ⟨w.heap.size + 1 + 1 + 1 + 1, 0, none⟩) (by simp only; omega) _).setCell (p := ⟨w.heap.size + 1 + 1 + 1 + 1 + 1, 0, none⟩) (by simp only; omega) _)⟩
  have HR5 : Aside0 (Kd.R (Kd.int .i64) 3 W3 w.heap.size (fun _ => True) (.slice A4 (optL st.1).length cc4) (optL st.1)) := ⟨by
    refine Kd.R_lower (Kd.R_mono (Kd.R_move (R_only HR4.out (ok' := fun k => w.heap.size + 10 ≤ k) (fun k hk => Kd.R_base HR4.out k hk)) (fun k hk => ?_)) (fun _ _ => trivial)) (Nat.le_add_right _ 10)
    rw [← hW3]
    exact (Below.heap_setCell _ _ _ _ (by simp only [ne_eq]; omega)).trans (Below.heap_setCell _ _ _ _ (by simp only [ne_eq]; omega))⟩
  rw [hW3]
  clear hW3 c4 c5 f4 f5 HR4 HB
  go_wp2
  refine bodyPost_ret (v := .tuple #[.slice A4 (optL st.1).length cc4, .int .i64 st.2]) (by simp [results, Try.results38, go_sem, e4, e5]) rfl ?_
  exact ⟨A4, cc4, rfl, Kd.R_drew HR5.out, HN4.out, below_drew HW.out⟩
end

end Go.Proofs.Ytfjafmgaahfhgaa.P
namespace Go.Proofs.Ytfjafmgaahfhgaa.P
open Go.RowKit Go.Proofs.YtfjafmgaahfhgaaW.PrintWords Go.Proofs.YtfjafmgaahfhgaaW.PrintLast Go.Proofs.YtfjafmgaahfhgaaW.PrintMore
attribute [local go_sem] max2_int min2_int max_two min_two max_three min_three max_four min_four   -- for this text's walks alone
set_option linter.unusedVariables false
set_option linter.unusedSimpArgs false

/-! slices.Min and Max at ints, where there is an element -/
def minL : List Int → Int
  | [] => 0
  | x :: l => l.foldl min x
def maxL : List Int → Int
  | [] => 0
  | x :: l => l.foldl max x
def slices_Min_int_int.f (l0 : List Int) : Option Int := if l0.length < 1 then none else some (minL l0)
def slices_Max_int_int.f (l0 : List Int) : Option Int := if l0.length < 1 then none else some (maxL l0)
theorem minL_take {l : List Int} {k : Nat} (h : k < l.length) (h1 : 1 ≤ k) : min (minL (l.take k)) l[k] = minL (l.take (k + 1)) := by
  rw [List.take_succ_eq_append_getElem h]
  cases l with
  | nil => simp at h
  | cons x l =>
    obtain ⟨j, rfl⟩ : ∃ j, k = j + 1 := ⟨k - 1, by omega⟩
    simp only [List.take_succ_cons, List.cons_append, minL, List.foldl_append, List.foldl_cons, List.foldl_nil]
theorem maxL_take {l : List Int} {k : Nat} (h : k < l.length) (h1 : 1 ≤ k) : max (maxL (l.take k)) l[k] = maxL (l.take (k + 1)) := by
  rw [List.take_succ_eq_append_getElem h]
  cases l with
  | nil => simp at h
  | cons x l =>
    obtain ⟨j, rfl⟩ : ∃ j, k = j + 1 := ⟨k - 1, by omega⟩
    simp only [List.take_succ_cons, List.cons_append, maxL, List.foldl_append, List.foldl_cons, List.foldl_nil]
set_option maxHeartbeats 2000000 in
set_option maxRecDepth 100000 in
theorem slices_Min_int_int.calls (A0 : Option Addr) (c0 : Nat) (l0 : List Int) (r : Int) (w : World) (hr0 : Kd.C (Kd.int .i64) w A0 l0.length l0) (_ : l0.length ≤ c0) (h : slices_Min_int_int.f l0 = some r) :
    Calls Try.prog 58 #[.slice A0 l0.length c0] w fun e w' => e = .returned (.int .i64 r) ∧ Drawn0 w w' := by
  unfold slices_Min_int_int.f at h
  by_cases hc : l0.length < 1
  · rw [if_pos hc] at h; cases h
  · rw [if_neg hc] at h
    have hres := Option.some.inj h
    have hm : l0.length ≤ 9223372036854775807 := Kd.C_max hr0
    have HR := Aside0.mk hr0
    have HH := Aside0.mk hres
    have q1 : decide (l0.length < 1) = false := decide_eq_false hc
    have q2 : decide ((l0.length : Int) < 1) = false := decide_eq_false (by omega)
    have hpos : 0 < l0.length := by omega
    have hposz : (0 : Int) < (l0.length : Int) := by omega
    obtain ⟨ad, ead, hcell0⟩ := Kd.at_int hr0 0 (by omega) hposz
    have HE := Aside0.mk (show ∃ x l, l0 = x :: l ∧ rd l0 0 = x from by
      cases l0 with
      | nil => simp at hpos
      | cons x l => exact ⟨x, l, rfl, rfl⟩)
    obtain ⟨x, hx⟩ : ∃ x, rd l0 0 = x := ⟨_, rfl⟩
    rw [hx] at hcell0 HE
    have hcell1 : w.cell? ad = some (.int .i64 x) := by rw [← hcell0]; congr 1
    cases ead
    clear hr0 h hres hc hx hcell0
    go_enter Try.func58, Try.ntmps58
    go_wp2
    go_loopg [3, 4] l0.length (fun gg s3 s4 wr => ∃ (kk q : Nat) (v : Int), s4 = .int .i64 kk ∧ s3 = .int .i64 v ∧ wr = w.drewN q ∧ Aside0 (kk + gg = l0.length + 1) ∧ Aside0 (1 ≤ kk) ∧ Aside0 (v = minL (l0.take kk)))
    case atStart => exact ⟨1, _, x, rfl, rfl, by first | rfl | exact (World.drewN_zero _).symm | (apply Eq.symm; apply World.drewN_zero), ⟨by omega⟩, ⟨by omega⟩, ⟨by obtain ⟨y, l, h1, h2⟩ := HE.out; subst h1; subst h2; rfl⟩⟩
    case round =>
      obtain ⟨kk, q, v, rfl, rfl, rfl, HK, H1, HV⟩ := hrel
      by_cases hlt : kk < l0.length
      · have hltz : (kk : Int) < (l0.length : Int) := by omega
        obtain ⟨ad2, ead, hcellk⟩ := Kd.at_int HR.out (kk : Int) (by omega) hltz
        rw [rd_get hlt] at hcellk
        rw [Int.toNat_natCast] at hcellk
        cases ead
        generalize hy : l0[kk] = y at hcellk
        have Hy := Aside0.mk hy
        clear hy hcell1
        go_wp2
        all_goals
          go_roundg (gk - 1)
          case measure => have := HK.out; omega
          case rel =>
            refine ⟨kk + 1, q, min v y, by go_num, by first | rfl | (congr 1; omega), by first | rfl | simp, ⟨by have := HK.out; omega⟩, ⟨by omega⟩, ⟨?_⟩⟩
            rw [HV.out, ← Hy.out]
            exact minL_take hlt H1.out
      · have hltz : ¬ (kk : Int) < (l0.length : Int) := by omega
        clear hcell1
        go_wp2
        go_ret
        refine ⟨?_, ⟨_, rfl⟩⟩
        have h1 := HV.out
        rw [List.take_of_length_le (by omega), HH.out] at h1
        rw [h1]; first | rfl | simp
set_option maxHeartbeats 2000000 in
set_option maxRecDepth 100000 in
theorem slices_Max_int_int.calls (A0 : Option Addr) (c0 : Nat) (l0 : List Int) (r : Int) (w : World) (hr0 : Kd.C (Kd.int .i64) w A0 l0.length l0) (_ : l0.length ≤ c0) (h : slices_Max_int_int.f l0 = some r) :
    Calls Try.prog 59 #[.slice A0 l0.length c0] w fun e w' => e = .returned (.int .i64 r) ∧ Drawn0 w w' := by
  unfold slices_Max_int_int.f at h
  by_cases hc : l0.length < 1
  · rw [if_pos hc] at h; cases h
  · rw [if_neg hc] at h
    have hres := Option.some.inj h
    have hm : l0.length ≤ 9223372036854775807 := Kd.C_max hr0
    have HR := Aside0.mk hr0
    have HH := Aside0.mk hres
    have q1 : decide (l0.length < 1) = false := decide_eq_false hc
    have q2 : decide ((l0.length : Int) < 1) = false := decide_eq_false (by omega)
    have hpos : 0 < l0.length := by omega
    have hposz : (0 : Int) < (l0.length : Int) := by omega
    obtain ⟨ad, ead, hcell0⟩ := Kd.at_int hr0 0 (by omega) hposz
    have HE := Aside0.mk (show ∃ x l, l0 = x :: l ∧ rd l0 0 = x from by
      cases l0 with
      | nil => simp at hpos
      | cons x l => exact ⟨x, l, rfl, rfl⟩)
    obtain ⟨x, hx⟩ : ∃ x, rd l0 0 = x := ⟨_, rfl⟩
    rw [hx] at hcell0 HE
    have hcell1 : w.cell? ad = some (.int .i64 x) := by rw [← hcell0]; congr 1
    cases ead
    clear hr0 h hres hc hx hcell0
    go_enter Try.func59, Try.ntmps59
    go_wp2
    go_loopg [3, 4] l0.length (fun gg s3 s4 wr => ∃ (kk q : Nat) (v : Int), s4 = .int .i64 kk ∧ s3 = .int .i64 v ∧ wr = w.drewN q ∧ Aside0 (kk + gg = l0.length + 1) ∧ Aside0 (1 ≤ kk) ∧ Aside0 (v = maxL (l0.take kk)))
    case atStart => exact ⟨1, _, x, rfl, rfl, by first | rfl | exact (World.drewN_zero _).symm | (apply Eq.symm; apply World.drewN_zero), ⟨by omega⟩, ⟨by omega⟩, ⟨by obtain ⟨y, l, h1, h2⟩ := HE.out; subst h1; subst h2; rfl⟩⟩
    case round =>
      obtain ⟨kk, q, v, rfl, rfl, rfl, HK, H1, HV⟩ := hrel
      by_cases hlt : kk < l0.length
      · have hltz : (kk : Int) < (l0.length : Int) := by omega
        obtain ⟨ad2, ead, hcellk⟩ := Kd.at_int HR.out (kk : Int) (by omega) hltz
        rw [rd_get hlt] at hcellk
        rw [Int.toNat_natCast] at hcellk
        cases ead
        generalize hy : l0[kk] = y at hcellk
        have Hy := Aside0.mk hy
        clear hy hcell1
        go_wp2
        all_goals
          go_roundg (gk - 1)
          case measure => have := HK.out; omega
          case rel =>
            refine ⟨kk + 1, q, max v y, by go_num, by first | rfl | (congr 1; omega), by first | rfl | simp, ⟨by have := HK.out; omega⟩, ⟨by omega⟩, ⟨?_⟩⟩
            rw [HV.out, ← Hy.out]
            exact maxL_take hlt H1.out
      · have hltz : ¬ (kk : Int) < (l0.length : Int) := by omega
        clear hcell1
        go_wp2
        go_ret
        refine ⟨?_, ⟨_, rfl⟩⟩
        have h1 := HV.out
        rw [List.take_of_length_le (by omega), HH.out] at h1
        rw [h1]; first | rfl | simp

end Go.Proofs.Ytfjafmgaahfhgaa.P
namespace Go.Proofs.Ytfjafmgaahfhgaa.P
open Go.RowKit Go.Proofs.YtfjafmgaahfhgaaW.PrintWords Go.Proofs.YtfjafmgaahfhgaaW.PrintLast Go.Proofs.YtfjafmgaahfhgaaW.PrintMore
attribute [local go_sem] max2_int min2_int max_two min_two max_three min_three max_four min_four   -- for this text's walks alone
set_option linter.unusedVariables false
set_option linter.unusedSimpArgs false

/-! ### voices_circle_valid: function 36 -/
mutual
def voices_circle_valid.j0 : Nat → Int → List (List Int) → Bool → Option (Bool)
  | 0, _, _, _ => none
  | k + 1, x0, x1, x12 => if x12 = true then (some false) else (voices_circle_valid.l0 k x0 x1 x1 (x1.length : Int) 0)
def voices_circle_valid.l0 : Nat → Int → List (List Int) → List (List Int) → Int → Int → Option (Bool)
  | 0, _, _, _, _, _ => none
  | k + 1, x0, x1, x13, x14, x15 => if x15 < x14 then (if 0 ≤ x15 then (if x15 < (x13.length : Int) then (if ((rd_L1 x13 x15).length : Int) < 1 then (some false) else (if ((rd_L1 x13 x15).length : Int) > 6 then (some false) else (if 0 < (x1.length : Int) then (if ((rd_L1 x13 x15).length : Int) = ((rd_L1 x1 0).length : Int) then ((slices_Min_int_int.f (rd_L1 x13 x15)).bind fun t1003 => (if t1003 < 0 then (some false) else ((slices_Max_int_int.f (rd_L1 x13 x15)).bind fun t1004 => (if t1004 ≥ x0 then (some false) else (voices_circle_valid.l0 k x0 x1 x13 x14 (wrap64 (x15 + 1))))))) else (some false)) else (none)))) else (none)) else (none)) else (some true)
end
def voices_circle_valid.f (k : Nat) (a0 : Int) (l1 : List (List Int)) : Option (Bool) := if a0 < 2 then (voices_circle_valid.j0 k a0 l1 true) else (voices_circle_valid.j0 k a0 l1 (decide (a0 > 16)))
theorem voices_circle_valid.mono_l : ∀ k, (∀ y0 y1 y2, LeO (voices_circle_valid.j0 k y0 y1 y2) (voices_circle_valid.j0 (k + 1) y0 y1 y2)) ∧ (∀ y0 y1 y2 y3 y4, LeO (voices_circle_valid.l0 k y0 y1 y2 y3 y4) (voices_circle_valid.l0 (k + 1) y0 y1 y2 y3 y4))
  | 0 => ⟨fun _ _ _ r h => by simp [voices_circle_valid.j0] at h, fun _ _ _ _ _ r h => by simp [voices_circle_valid.l0] at h⟩
  | k + 1 => by
    obtain ⟨ih0, ih1⟩ := voices_circle_valid.mono_l k
    refine ⟨?_, ?_⟩
    · intro y0 y1 y2
      unfold voices_circle_valid.j0
      repeat' first
      | (with_reducible exact ih0 _ _ _)
      | (with_reducible exact ih1 _ _ _ _ _)
      | (with_reducible exact LeO.refl _)
      | (with_reducible exact LeO.none _)
      | (with_reducible refine LeO.ite ?_ ?_)
      | (with_reducible refine LeO.bind ?_ (fun _ => ?_))
      | exact ih0 _ _ _
      | exact ih1 _ _ _ _ _
      | exact LeO.none _
      | refine LeO.ite ?_ ?_
      | refine LeO.bind ?_ (fun _ => ?_)
    · intro y0 y1 y2 y3 y4
      unfold voices_circle_valid.l0
      repeat' first
      | (with_reducible exact ih0 _ _ _)
      | (with_reducible exact ih1 _ _ _ _ _)
      | (with_reducible exact LeO.refl _)
      | (with_reducible exact LeO.none _)
      | (with_reducible refine LeO.ite ?_ ?_)
      | (with_reducible refine LeO.bind ?_ (fun _ => ?_))
      | exact ih0 _ _ _
      | exact ih1 _ _ _ _ _
      | exact LeO.none _
      | refine LeO.ite ?_ ?_
      | refine LeO.bind ?_ (fun _ => ?_)
theorem voices_circle_valid.mono : ∀ a0 a1 k, LeO (voices_circle_valid.f k a0 a1) (voices_circle_valid.f (k + 1) a0 a1) := by
  intro a0 a1 k
  obtain ⟨ih0, ih1⟩ := voices_circle_valid.mono_l k
  unfold voices_circle_valid.f
  repeat' first
      | (with_reducible exact ih0 _ _ _)
      | (with_reducible exact ih1 _ _ _ _ _)
      | (with_reducible exact LeO.refl _)
      | (with_reducible exact LeO.none _)
      | (with_reducible refine LeO.ite ?_ ?_)
      | (with_reducible refine LeO.bind ?_ (fun _ => ?_))
      | exact ih0 _ _ _
      | exact ih1 _ _ _ _ _
      | exact LeO.none _
      | refine LeO.ite ?_ ?_
      | refine LeO.bind ?_ (fun _ => ?_)
set_option maxHeartbeats 8000000 in
set_option maxRecDepth 100000 in
theorem voices_circle_valid.calls (k : Nat) (a0 : Int) (A1 : Option Addr) (c1 : Nat) (l1 : List (List Int)) (r : Bool) (w : World) (hr1 : Kd.C (Kd.slice 3 (Kd.int .i64)) w A1 l1.length l1) (hc1 : l1.length ≤ c1) (h : voices_circle_valid.f k a0 l1 = some r) :
    Calls Try.prog 36 #[.int .i64 a0, .slice A1 l1.length c1] w fun e w' => e = .returned (.bool r) ∧ Drawn0 w w' := by
  have HR1 := Aside0.mk hr1
  have HC1 := Aside0.mk hc1
  clear hr1 hc1
  have H : (if a0 < 2 then (voices_circle_valid.j0 k a0 l1 true) else (voices_circle_valid.j0 k a0 l1 (decide (a0 > 16)))) = some r := h
  clear h
  have HC3 := Aside0.mk H
  clear H
  go_enter Try.func36, Try.ntmps36
  go_upto_region 1 with (fail)
  go_cut [12] (fun v12 wc => ∃ (kq : Nat) (x12_2 : Bool), v12 = .bool x12_2 ∧ Aside0 (voices_circle_valid.j0 kq a0 l1 x12_2 = some r) ∧ Aside0 (kq ≤ k) ∧ Drawn0 w wc)
  case first =>
    have H := HC3.out
    clear HC3
    by_cases c4 : a0 < 2
    · rw [if_pos c4] at H
      have c4b0 : decide (a0 < 2) = true := decide_eq_true c4
      clear c4
      (first | rw [c4b0] | (simp only [i64_w, i32_w]; rw [c4b0]) | skip)
      have H' := Aside0.mk H
      clear H
      go_wp2
      go_meet
      case rel => exact ⟨_, (true), (by first | rfl | (simp; done) | (simp [*]; done)), H', ⟨by first | omega | exact Nat.le_refl _⟩, by repeat (first | exact Drawn0.refl _ | apply Drawn0.step)⟩
    · rw [if_neg c4] at H
      have c4b0 : decide (a0 < 2) = false := decide_eq_false c4
      clear c4
      (first | rw [c4b0] | (simp only [i64_w, i32_w]; rw [c4b0]) | skip)
      have H' := Aside0.mk H
      clear H
      go_wp2
      go_meet
      case rel => exact ⟨_, (decide (a0 > 16)), (by first | rfl | (simp; done) | (simp [*]; done)), H', ⟨by first | omega | exact Nat.le_refl _⟩, by repeat (first | exact Drawn0.refl _ | apply Drawn0.step)⟩
  case rest =>
    clear HC3
    try clear c1
    try clear p2
    try clear c3
    try clear c4
    try clear c4b0
    obtain ⟨kq, x12_2, rfl, HA, HJ2, ⟨mc2, rfl⟩⟩ := hcut
    cases kq with
    | zero => exact absurd HA.out (by simp [voices_circle_valid.j0])
    | succ kj2 =>
      have H := HA.out
      clear HA
      simp only [voices_circle_valid.j0] at H
      by_cases c5 : x12_2 = true
      · subst c5
        have H1 : (some false) = some r := by rw [if_pos rfl] at H; exact H
        clear H
        have H := H1
        clear H1
        obtain rfl := Option.some.inj H
        go_wp2
        go_ret
        exact ⟨by first | rfl | (simp; done) | (simp [*]; done), by repeat (first | exact Drawn0.refl _ | apply Drawn0.step)⟩
      · replace c5 := Bool.eq_false_iff.mpr c5
        subst c5
        have H1 : (voices_circle_valid.l0 kj2 a0 l1 l1 (l1.length : Int) 0) = some r := by rw [if_neg (show ¬ (false = true) by decide)] at H; exact H
        clear H
        have H := H1
        clear H1
        have H' := Aside0.mk H
        clear H
        go_wp2
        go_loopg [15] kj2 (fun kq v15 w' => ∃ (x15_2 : Int), v15 = .int .i64 x15_2 ∧ Aside0 (voices_circle_valid.l0 kq a0 l1 l1 (l1.length : Int) x15_2 = some r) ∧ Aside0 (kq ≤ kj2) ∧ Drawn0 w w')
        case atStart => exact ⟨(0), (by first | rfl | (simp; done) | (simp [*]; done)), H', ⟨Nat.le_refl _⟩, by repeat (first | exact Drawn0.refl _ | apply Drawn0.step)⟩
        case round =>
          clear H'
          try clear c1
          try clear c2
          try clear p2
          try clear c3
          try clear c4
          try clear c4b0
          try clear c5
          try clear p2
          obtain ⟨x15_2, rfl, HA, HK2, ⟨m2, rfl⟩⟩ := hrel
          cases gk with
          | zero => exact absurd HA.out (by simp [voices_circle_valid.l0])
          | succ k2 =>
            have H := HA.out
            clear HA
            simp only [voices_circle_valid.l0] at H
            by_cases c6 : x15_2 < (l1.length : Int)
            · rw [if_pos c6] at H
              have c6b0 : decide (x15_2 < (l1.length : Int)) = true := decide_eq_true c6
              clear c6
              by_cases c7 : 0 ≤ x15_2
              · rw [if_pos c7] at H
                have c7b0 : decide (0 ≤ x15_2) = true := decide_eq_true c7
                clear c7
                by_cases c8 : x15_2 < (l1.length : Int)
                · rw [if_pos c8] at H
                  have c8b0 : decide (x15_2 < (l1.length : Int)) = true := decide_eq_true c8
                  clear c8
                  by_cases c9 : ((rd_L1 l1 x15_2).length : Int) < 1
                  · rw [if_pos c9] at H
                    have c9b0 : decide (((rd_L1 l1 x15_2).length : Int) < 1) = true := decide_eq_true c9
                    have c9b1 : decide ((rd_L1 l1 x15_2).length < 1) = true := decide_eq_true (by omega)
                    clear c9
                    obtain rfl := Option.some.inj H
                    have p1001 : 0 ≤ (x15_2 : Int) := of_decide_eq_true (by first | (with_reducible assumption) | assumption)
                    have q1001 : x15_2 < (l1.length : Int) := of_decide_eq_true (by first | (with_reducible assumption) | assumption)
                    obtain ⟨ad1001, A1001_0, c1001_0, e1001, hx1001_0, hl1001_0, hi1001_0⟩ := at_L1 HR1.out x15_2 p1001 q1001
                    cases e1001
                    have HR1001_0 := Aside0.mk hi1001_0
                    have HC1001_0 := Aside0.mk hl1001_0
                    clear hi1001_0 hl1001_0
                    replace p1001 := eq_true p1001
                    replace q1001 := eq_true q1001
                    go_wp2
                    go_ret
                    exact ⟨by first | rfl | (simp; done) | (simp [*]; done), by repeat (first | exact Drawn0.refl _ | apply Drawn0.step)⟩
                  · rw [if_neg c9] at H
                    have c9b0 : decide (((rd_L1 l1 x15_2).length : Int) < 1) = false := decide_eq_false c9
                    have c9b1 : decide ((rd_L1 l1 x15_2).length < 1) = false := decide_eq_false (by omega)
                    clear c9
                    by_cases c10 : ((rd_L1 l1 x15_2).length : Int) > 6
                    · rw [if_pos c10] at H
                      have c10b0 : decide (6 < ((rd_L1 l1 x15_2).length : Int)) = true := decide_eq_true c10
                      have c10b1 : decide (6 < (rd_L1 l1 x15_2).length) = true := decide_eq_true (by omega)
                      clear c10
                      obtain rfl := Option.some.inj H
                      have p1001 : 0 ≤ (x15_2 : Int) := of_decide_eq_true (by first | (with_reducible assumption) | assumption)
                      have q1001 : x15_2 < (l1.length : Int) := of_decide_eq_true (by first | (with_reducible assumption) | assumption)
                      obtain ⟨ad1001, A1001_0, c1001_0, e1001, hx1001_0, hl1001_0, hi1001_0⟩ := at_L1 HR1.out x15_2 p1001 q1001
                      cases e1001
                      have HR1001_0 := Aside0.mk hi1001_0
                      have HC1001_0 := Aside0.mk hl1001_0
                      clear hi1001_0 hl1001_0
                      replace p1001 := eq_true p1001
                      replace q1001 := eq_true q1001
                      go_wp2
                      go_ret
                      exact ⟨by first | rfl | (simp; done) | (simp [*]; done), by repeat (first | exact Drawn0.refl _ | apply Drawn0.step)⟩
                    · rw [if_neg c10] at H
                      have c10b0 : decide (6 < ((rd_L1 l1 x15_2).length : Int)) = false := decide_eq_false c10
                      have c10b1 : decide (6 < (rd_L1 l1 x15_2).length) = false := decide_eq_false (by omega)
                      clear c10
                      by_cases c11 : 0 < (l1.length : Int)
                      · rw [if_pos c11] at H
                        have c11b0 : decide (0 < (l1.length : Int)) = true := decide_eq_true c11
                        have c11b1 : decide (0 < l1.length) = true := decide_eq_true (by omega)
                        clear c11
                        by_cases c12 : ((rd_L1 l1 x15_2).length : Int) = ((rd_L1 l1 0).length : Int)
                        · rw [if_pos c12] at H
                          have c12b0 : (((rd_L1 l1 x15_2).length : Int) == ((rd_L1 l1 0).length : Int)) = true := beq_iff_eq.mpr c12
                          have c12b1 : (((rd_L1 l1 x15_2).length : Int) != ((rd_L1 l1 0).length : Int)) = false := bne_eq_false_iff_eq.mpr c12
                          have c12b2 : ((rd_L1 l1 x15_2).length == (rd_L1 l1 0).length) = true := by first | simpa using c12 | (simp at c12 ⊢; omega)
                          clear c12
                          replace H := Option.bind_eq_some_iff.mp H
                          obtain ⟨t1003, A130, H⟩ := H
                          replace H : (if t1003 < 0 then (some false) else ((slices_Max_int_int.f (rd_L1 l1 x15_2)).bind fun t1004 => (if t1004 ≥ a0 then (some false) else (voices_circle_valid.l0 k2 a0 l1 l1 (l1.length : Int) (wrap64 (x15_2 + 1)))))) = some r := H
                          have A13 := Aside0.mk A130
                          clear A130
                          by_cases c14 : t1003 < 0
                          · rw [if_pos c14] at H
                            have c14b0 : decide (t1003 < 0) = true := decide_eq_true c14
                            clear c14
                            obtain rfl := Option.some.inj H
                            have p1001 : 0 ≤ (x15_2 : Int) := of_decide_eq_true (by first | (with_reducible assumption) | assumption)
                            have q1001 : x15_2 < (l1.length : Int) := of_decide_eq_true (by first | (with_reducible assumption) | assumption)
                            obtain ⟨ad1001, A1001_0, c1001_0, e1001, hx1001_0, hl1001_0, hi1001_0⟩ := at_L1 HR1.out x15_2 p1001 q1001
                            cases e1001
                            have HR1001_0 := Aside0.mk hi1001_0
                            have HC1001_0 := Aside0.mk hl1001_0
                            clear hi1001_0 hl1001_0
                            replace p1001 := eq_true p1001
                            replace q1001 := eq_true q1001
                            have p1002 : 0 ≤ (0 : Int) := (by omega)
                            have q1002 : 0 < (l1.length : Int) := of_decide_eq_true (by first | (with_reducible assumption) | assumption)
                            obtain ⟨ad1002, A1002_0, c1002_0, e1002, hx1002_0, hl1002_0, hi1002_0⟩ := at_L1 HR1.out 0 p1002 q1002
                            obtain rfl : ad1001 = ad1002 := (by injection e1002)
                            have qi1002 : (0 < l1.length) = True := eq_true (by omega)
                            (try rw [show ((0 : Int)).toNat = 0 from rfl] at hx1002_0)
                            (try rw [Addr.add_zero'] at hx1002_0)
                            have HR1002_0 := Aside0.mk hi1002_0
                            have HC1002_0 := Aside0.mk hl1002_0
                            clear hi1002_0 hl1002_0
                            replace p1002 := eq_true p1002
                            replace q1002 := eq_true q1002
                            go_wp2_with (first | (go_at_call 58; (with_reducible refine (slices_Min_int_int.calls _ _ (rd_L1 l1 x15_2) t1003 _ ?side1 ?side2 A13.out).mono ?_); (case side1 => repeat (first | exact HR1001_0.out | (with_reducible refine Kd.C_alloc ?_ _) | (with_reducible refine Kd.C_drewN ?_ _) | (with_reducible refine Kd.C_drew ?_))); (case side2 => exact HC1001_0.out); rintro e w' ⟨rfl, ⟨nd, rfl⟩⟩))
                            go_ret
                            exact ⟨by first | rfl | (simp; done) | (simp [*]; done), by repeat (first | exact Drawn0.refl _ | apply Drawn0.step)⟩
                          · rw [if_neg c14] at H
                            have c14b0 : decide (t1003 < 0) = false := decide_eq_false c14
                            clear c14
                            replace H := Option.bind_eq_some_iff.mp H
                            obtain ⟨t1004, A150, H⟩ := H
                            replace H : (if t1004 ≥ a0 then (some false) else (voices_circle_valid.l0 k2 a0 l1 l1 (l1.length : Int) (wrap64 (x15_2 + 1)))) = some r := H
                            have A15 := Aside0.mk A150
                            clear A150
                            by_cases c16 : t1004 ≥ a0
                            · rw [if_pos c16] at H
                              have c16b0 : decide (a0 ≤ t1004) = true := decide_eq_true c16
                              clear c16
                              obtain rfl := Option.some.inj H
                              have p1001 : 0 ≤ (x15_2 : Int) := of_decide_eq_true (by first | (with_reducible assumption) | assumption)
                              have q1001 : x15_2 < (l1.length : Int) := of_decide_eq_true (by first | (with_reducible assumption) | assumption)
                              obtain ⟨ad1001, A1001_0, c1001_0, e1001, hx1001_0, hl1001_0, hi1001_0⟩ := at_L1 HR1.out x15_2 p1001 q1001
                              cases e1001
                              have HR1001_0 := Aside0.mk hi1001_0
                              have HC1001_0 := Aside0.mk hl1001_0
                              clear hi1001_0 hl1001_0
                              replace p1001 := eq_true p1001
                              replace q1001 := eq_true q1001
                              have p1002 : 0 ≤ (0 : Int) := (by omega)
                              have q1002 : 0 < (l1.length : Int) := of_decide_eq_true (by first | (with_reducible assumption) | assumption)
                              obtain ⟨ad1002, A1002_0, c1002_0, e1002, hx1002_0, hl1002_0, hi1002_0⟩ := at_L1 HR1.out 0 p1002 q1002
                              obtain rfl : ad1001 = ad1002 := (by injection e1002)
                              have qi1002 : (0 < l1.length) = True := eq_true (by omega)
                              (try rw [show ((0 : Int)).toNat = 0 from rfl] at hx1002_0)
                              (try rw [Addr.add_zero'] at hx1002_0)
                              have HR1002_0 := Aside0.mk hi1002_0
                              have HC1002_0 := Aside0.mk hl1002_0
                              clear hi1002_0 hl1002_0
                              replace p1002 := eq_true p1002
                              replace q1002 := eq_true q1002
                              go_wp2_with (first | (go_at_call 58; (with_reducible refine (slices_Min_int_int.calls _ _ (rd_L1 l1 x15_2) t1003 _ ?side1 ?side2 A13.out).mono ?_); (case side1 => repeat (first | exact HR1001_0.out | (with_reducible refine Kd.C_alloc ?_ _) | (with_reducible refine Kd.C_drewN ?_ _) | (with_reducible refine Kd.C_drew ?_))); (case side2 => exact HC1001_0.out); rintro e w' ⟨rfl, ⟨nd, rfl⟩⟩) | (go_at_call 59; (with_reducible refine (slices_Max_int_int.calls _ _ (rd_L1 l1 x15_2) t1004 _ ?side1 ?side2 A15.out).mono ?_); (case side1 => repeat (first | exact HR1001_0.out | (with_reducible refine Kd.C_alloc ?_ _) | (with_reducible refine Kd.C_drewN ?_ _) | (with_reducible refine Kd.C_drew ?_))); (case side2 => exact HC1001_0.out); rintro e w' ⟨rfl, ⟨nd, rfl⟩⟩))
                              go_ret
                              exact ⟨by first | rfl | (simp; done) | (simp [*]; done), by repeat (first | exact Drawn0.refl _ | apply Drawn0.step)⟩
                            · rw [if_neg c16] at H
                              have c16b0 : decide (a0 ≤ t1004) = false := decide_eq_false c16
                              clear c16
                              have H' := Aside0.mk H
                              clear H
                              have p1001 : 0 ≤ (x15_2 : Int) := of_decide_eq_true (by first | (with_reducible assumption) | assumption)
                              have q1001 : x15_2 < (l1.length : Int) := of_decide_eq_true (by first | (with_reducible assumption) | assumption)
                              obtain ⟨ad1001, A1001_0, c1001_0, e1001, hx1001_0, hl1001_0, hi1001_0⟩ := at_L1 HR1.out x15_2 p1001 q1001
                              cases e1001
                              have HR1001_0 := Aside0.mk hi1001_0
                              have HC1001_0 := Aside0.mk hl1001_0
                              clear hi1001_0 hl1001_0
                              replace p1001 := eq_true p1001
                              replace q1001 := eq_true q1001
                              have p1002 : 0 ≤ (0 : Int) := (by omega)
                              have q1002 : 0 < (l1.length : Int) := of_decide_eq_true (by first | (with_reducible assumption) | assumption)
                              obtain ⟨ad1002, A1002_0, c1002_0, e1002, hx1002_0, hl1002_0, hi1002_0⟩ := at_L1 HR1.out 0 p1002 q1002
                              obtain rfl : ad1001 = ad1002 := (by injection e1002)
                              have qi1002 : (0 < l1.length) = True := eq_true (by omega)
                              (try rw [show ((0 : Int)).toNat = 0 from rfl] at hx1002_0)
                              (try rw [Addr.add_zero'] at hx1002_0)
                              have HR1002_0 := Aside0.mk hi1002_0
                              have HC1002_0 := Aside0.mk hl1002_0
                              clear hi1002_0 hl1002_0
                              replace p1002 := eq_true p1002
                              replace q1002 := eq_true q1002
                              go_wp2_with (first | (go_at_call 58; (with_reducible refine (slices_Min_int_int.calls _ _ (rd_L1 l1 x15_2) t1003 _ ?side1 ?side2 A13.out).mono ?_); (case side1 => repeat (first | exact HR1001_0.out | (with_reducible refine Kd.C_alloc ?_ _) | (with_reducible refine Kd.C_drewN ?_ _) | (with_reducible refine Kd.C_drew ?_))); (case side2 => exact HC1001_0.out); rintro e w' ⟨rfl, ⟨nd, rfl⟩⟩) | (go_at_call 59; (with_reducible refine (slices_Max_int_int.calls _ _ (rd_L1 l1 x15_2) t1004 _ ?side1 ?side2 A15.out).mono ?_); (case side1 => repeat (first | exact HR1001_0.out | (with_reducible refine Kd.C_alloc ?_ _) | (with_reducible refine Kd.C_drewN ?_ _) | (with_reducible refine Kd.C_drew ?_))); (case side2 => exact HC1001_0.out); rintro e w' ⟨rfl, ⟨nd, rfl⟩⟩))
                              go_roundg k2
                              case measure => have := HJ2.out; have := HK2.out; omega
                              case rel => exact ⟨(wrap64 (x15_2 + 1)), (by first | rfl | (simp; done) | (simp [*]; done)), H', ⟨by have := HJ2.out; have := HK2.out; omega⟩, by repeat (first | exact Drawn0.refl _ | apply Drawn0.step)⟩
                        · rw [if_neg c12] at H
                          have c12b0 : (((rd_L1 l1 x15_2).length : Int) == ((rd_L1 l1 0).length : Int)) = false := beq_eq_false_iff_ne.mpr c12
                          have c12b1 : (((rd_L1 l1 x15_2).length : Int) != ((rd_L1 l1 0).length : Int)) = true := bne_iff_ne.mpr c12
                          have c12b2 : ((rd_L1 l1 x15_2).length == (rd_L1 l1 0).length) = false := by first | simpa using c12 | (simp at c12 ⊢; omega)
                          obtain rfl := Option.some.inj H
                          have p1001 : 0 ≤ (x15_2 : Int) := of_decide_eq_true (by first | (with_reducible assumption) | assumption)
                          have q1001 : x15_2 < (l1.length : Int) := of_decide_eq_true (by first | (with_reducible assumption) | assumption)
                          obtain ⟨ad1001, A1001_0, c1001_0, e1001, hx1001_0, hl1001_0, hi1001_0⟩ := at_L1 HR1.out x15_2 p1001 q1001
                          cases e1001
                          have HR1001_0 := Aside0.mk hi1001_0
                          have HC1001_0 := Aside0.mk hl1001_0
                          clear hi1001_0 hl1001_0
                          replace p1001 := eq_true p1001
                          replace q1001 := eq_true q1001
                          have p1002 : 0 ≤ (0 : Int) := (by omega)
                          have q1002 : 0 < (l1.length : Int) := of_decide_eq_true (by first | (with_reducible assumption) | assumption)
                          obtain ⟨ad1002, A1002_0, c1002_0, e1002, hx1002_0, hl1002_0, hi1002_0⟩ := at_L1 HR1.out 0 p1002 q1002
                          obtain rfl : ad1001 = ad1002 := (by injection e1002)
                          have qi1002 : (0 < l1.length) = True := eq_true (by omega)
                          (try rw [show ((0 : Int)).toNat = 0 from rfl] at hx1002_0)
                          (try rw [Addr.add_zero'] at hx1002_0)
                          have HR1002_0 := Aside0.mk hi1002_0
                          have HC1002_0 := Aside0.mk hl1002_0
                          clear hi1002_0 hl1002_0
                          replace p1002 := eq_true p1002
                          replace q1002 := eq_true q1002
                          go_wp2
                          go_ret
                          exact ⟨by first | rfl | (simp; done) | (simp [*]; done), by repeat (first | exact Drawn0.refl _ | apply Drawn0.step)⟩
                      · rw [if_neg c11] at H
                        exact absurd H (by simp)
                · rw [if_neg c8] at H
                  exact absurd H (by simp)
              · rw [if_neg c7] at H
                exact absurd H (by simp)
            · rw [if_neg c6] at H
              have c6b0 : decide (x15_2 < (l1.length : Int)) = false := decide_eq_false c6
              clear c6
              obtain rfl := Option.some.inj H
              go_wp2
              go_ret
              exact ⟨by first | rfl | (simp; done) | (simp [*]; done), by repeat (first | exact Drawn0.refl _ | apply Drawn0.step)⟩

end Go.Proofs.Ytfjafmgaahfhgaa.P
namespace Go.Proofs.Ytfjafmgaahfhgaa.P
open Go.RowKit Go.Proofs.YtfjafmgaahfhgaaW.PrintWords Go.Proofs.YtfjafmgaahfhgaaW.PrintLast Go.Proofs.YtfjafmgaahfhgaaW.PrintMore
attribute [local go_sem] max2_int min2_int max_two min_two max_three min_three max_four min_four   -- for this text's walks alone
set_option linter.unusedVariables false
set_option linter.unusedSimpArgs false

/-! voicings on a circle: what the first functions of voices come to -/
def VoiN (n : Int) (a : List Int) : Prop := 2 ≤ n ∧ n ≤ 16 ∧ 1 ≤ a.length ∧ a.length ≤ 6 ∧ ∀ x ∈ a, 0 ≤ x ∧ x < n
instance (n : Int) (a : List Int) : Decidable (VoiN n a) := by unfold VoiN; infer_instance
def TwoN (n : Int) (a b : List Int) : Prop := VoiN n a ∧ VoiN n b ∧ a.length = b.length
instance (n : Int) (a b : List Int) : Decidable (TwoN n a b) := by unfold TwoN; infer_instance
def ValL (n : Int) (L : List (List Int)) : Prop := 2 ≤ n ∧ n ≤ 16 ∧ ∀ v ∈ L, VoiN n v ∧ v.length = (L.getD 0 []).length
theorem foldl_min_int : ∀ (l : List Int) (m : Int), l.foldl min m ∈ m :: l ∧ ∀ b ∈ m :: l, l.foldl min m ≤ b
  | [], m => ⟨by simp, by simp⟩
  | c :: l, m => by
    obtain ⟨h1, h2⟩ := foldl_min_int l (min m c)
    rw [List.foldl_cons]
    refine ⟨?_, fun b hb => ?_⟩
    · rcases List.mem_cons.1 h1 with h | h
      · rw [h]; rcases Int.le_total m c with h3 | h3
        · rw [Int.min_eq_left h3]; simp
        · rw [Int.min_eq_right h3]; simp
      · simp [h]
    · have h3 := h2 (min m c) (by simp)
      rw [List.mem_cons, List.mem_cons] at hb
      rcases hb with rfl | rfl | hb
      · omega
      · omega
      · exact h2 b (by simp [hb])
theorem foldl_max_int : ∀ (l : List Int) (m : Int), l.foldl max m ∈ m :: l ∧ ∀ b ∈ m :: l, b ≤ l.foldl max m
  | [], m => ⟨by simp, by simp⟩
  | c :: l, m => by
    obtain ⟨h1, h2⟩ := foldl_max_int l (max m c)
    rw [List.foldl_cons]
    refine ⟨?_, fun b hb => ?_⟩
    · rcases List.mem_cons.1 h1 with h | h
      · rw [h]; rcases Int.le_total m c with h3 | h3
        · rw [Int.max_eq_right h3]; simp
        · rw [Int.max_eq_left h3]; simp
      · simp [h]
    · have h3 := h2 (max m c) (by simp)
      rw [List.mem_cons, List.mem_cons] at hb
      rcases hb with rfl | rfl | hb
      · omega
      · omega
      · exact h2 b (by simp [hb])
theorem minL_spec {l : List Int} (h : 1 ≤ l.length) : minL l ∈ l ∧ ∀ b ∈ l, minL l ≤ b := by
  cases l with
  | nil => simp at h
  | cons x l => exact foldl_min_int l x
theorem maxL_spec {l : List Int} (h : 1 ≤ l.length) : maxL l ∈ l ∧ ∀ b ∈ l, b ≤ maxL l := by
  cases l with
  | nil => simp at h
  | cons x l => exact foldl_max_int l x
theorem rdL_mid {pre rest : List (List Int)} {v : List Int} : rd_L1 (pre ++ v :: rest) (pre.length : Int) = v := by unfold rd_L1; simp
theorem rdL_zero (L : List (List Int)) : rd_L1 L 0 = L.getD 0 [] := rfl
theorem validV_loop (n : Int) (hn : 2 ≤ n ∧ n ≤ 16) (L : List (List Int)) (hL : L.length < 1000) : ∀ (rest pre : List (List Int)), L = pre ++ rest →
    Ev (fun k => voices_circle_valid.l0 k n L L (L.length : Int) (pre.length : Int)) (decide (∀ v ∈ rest, VoiN n v ∧ v.length = (L.getD 0 []).length)) := by
  intro rest
  induction rest with
  | nil =>
    intro pre hp
    have p1 : ¬ (pre.length : Int) < (L.length : Int) := by rw [hp]; simp
    refine Ev.succ ?_
    simp only [voices_circle_valid.l0, if_neg p1]
    exact Ev.some _
  | cons v rest ih =>
    intro pre hp
    have hlen : L.length = pre.length + (rest.length + 1) := by rw [hp]; simp
    have p1 : (pre.length : Int) < (L.length : Int) := by omega
    have p0 : (0 : Int) ≤ (pre.length : Int) := by omega
    have pL : (0 : Int) < (L.length : Int) := by omega
    have hv : rd_L1 L (pre.length : Int) = v := by rw [hp]; exact rdL_mid
    have go := ih (pre ++ [v]) (by rw [hp]; simp)
    have hw : wrap64 ((pre.length : Int) + 1) = ((pre ++ [v]).length : Int) := by rw [wrap_id (by omega) (by omega)]; simp
    generalize hz : (L.getD 0 []).length = z at *
    have hno : ¬ (VoiN n v ∧ v.length = z) → decide (∀ u ∈ v :: rest, VoiN n u ∧ u.length = z) = false := fun h => decide_eq_false (fun h2 => h (h2 v (by simp)))
    have hyes : (VoiN n v ∧ v.length = z) → decide (∀ u ∈ v :: rest, VoiN n u ∧ u.length = z) = decide (∀ u ∈ rest, VoiN n u ∧ u.length = z) := fun h => by
      rw [decide_eq_decide]
      exact ⟨fun h2 u hu => h2 u (by simp [hu]), fun h2 u hu => by
        rcases List.mem_cons.1 hu with rfl | hu
        · exact h
        · exact h2 u hu⟩
    refine Ev.succ ?_
    simp only [voices_circle_valid.l0, if_pos p1, if_pos p0, hv, if_pos pL, rdL_zero, hz, hw]
    refine Ev.ite (fun e => ?_) (fun e1 => ?_)
    · rw [hno (fun h => by have := h.1.2.2.1; omega)]; exact Ev.some _
    refine Ev.ite (fun e => ?_) (fun e2 => ?_)
    · rw [hno (fun h => by have := h.1.2.2.2.1; omega)]; exact Ev.some _
    refine Ev.ite (fun e3 => ?_) (fun e3 => ?_)
    · have hv1 : 1 ≤ v.length := by omega
      have f1 : slices_Min_int_int.f v = some (minL v) := by unfold slices_Min_int_int.f; rw [if_neg (by omega)]
      have f2 : slices_Max_int_int.f v = some (maxL v) := by unfold slices_Max_int_int.f; rw [if_neg (by omega)]
      obtain ⟨m1, m2⟩ := minL_spec hv1
      obtain ⟨m3, m4⟩ := maxL_spec hv1
      refine Ev.bind_some f1 ?_
      refine Ev.ite (fun e4 => ?_) (fun e4 => ?_)
      · rw [hno (fun h => by have := (h.1.2.2.2.2 _ m1).1; omega)]; exact Ev.some _
      refine Ev.bind_some f2 ?_
      refine Ev.ite (fun e5 => ?_) (fun e5 => ?_)
      · rw [hno (fun h => by have := (h.1.2.2.2.2 _ m3).2; omega)]; exact Ev.some _
      rw [hyes ⟨⟨hn.1, hn.2, hv1, by omega, fun x hx => ⟨by have := m2 x hx; omega, by have := m4 x hx; omega⟩⟩, by omega⟩]
      exact go
    · rw [hno (fun h => e3 (by rw [h.2]))]; exact Ev.some _
theorem validV_ev (n : Int) (L : List (List Int)) (hL : L.length < 1000) : Ev (fun k => voices_circle_valid.f k n L) (decide (2 ≤ n ∧ n ≤ 16 ∧ ∀ v ∈ L, VoiN n v ∧ v.length = (L.getD 0 []).length)) := by
  unfold voices_circle_valid.f
  refine Ev.ite (fun e => ?_) (fun e => ?_)
  · refine Ev.succ ?_
    simp only [voices_circle_valid.j0, if_true]
    rw [decide_eq_false (fun h => by omega)]
    exact Ev.some _
  · refine Ev.succ ?_
    by_cases h : n > 16
    · simp only [voices_circle_valid.j0, decide_eq_true h, if_true]
      rw [decide_eq_false (fun h => by omega)]
      exact Ev.some _
    · simp only [voices_circle_valid.j0, decide_eq_false h, Bool.false_eq_true, if_false]
      have := validV_loop n ⟨by omega, by omega⟩ L hL L [] rfl
      have e2 : decide (2 ≤ n ∧ n ≤ 16 ∧ ∀ v ∈ L, VoiN n v ∧ v.length = (L.getD 0 []).length) = decide (∀ v ∈ L, VoiN n v ∧ v.length = (L.getD 0 []).length) := by
        rw [decide_eq_decide]; exact ⟨fun h => h.2.2, fun h2 => ⟨by omega, by omega, h2⟩⟩
      rw [e2]
      exact this
theorem valid2_ev (n : Int) (a b : List Int) : Ev (fun k => voices_circle_valid.f k n [a, b]) (decide (TwoN n a b)) := by
  have h := validV_ev n [a, b] (by simp)
  have e : decide (2 ≤ n ∧ n ≤ 16 ∧ ∀ v ∈ [a, b], VoiN n v ∧ v.length = ([a, b].getD 0 []).length) = decide (TwoN n a b) := by
    rw [decide_eq_decide]
    unfold TwoN
    constructor
    · rintro ⟨_, _, h⟩
      exact ⟨(h a (by simp)).1, (h b (by simp)).1, ((h b (by simp)).2).symm⟩
    · rintro ⟨h1, h2, h3⟩
      refine ⟨h1.1, h1.2.1, fun v hv => ?_⟩
      rcases List.mem_cons.1 hv with rfl | hv
      · exact ⟨h1, rfl⟩
      · rw [List.mem_singleton] at hv; subst hv; exact ⟨h2, h3.symm⟩
  rw [e] at h
  exact h
/-! movements, distances, prices -/
def mvN (n x y : Int) : Int := if 2 * ((y - x) % n) > n then (y - x) % n - n else (y - x) % n
def dsN (n x y : Int) : Int := max (mvN n x y) (-(mvN n x y))
theorem mod_f {n x : Int} (hn : 2 ≤ n) (hn2 : n ≤ 16) : voices_circle_mod.f n x = some (x % n) := by
  unfold voices_circle_mod.f
  rw [if_neg (by omega), tmod_mod (by omega) (by omega)]
theorem mvN_bd {n x y : Int} (hn : 2 ≤ n) : -n ≤ 2 * mvN n x y ∧ 2 * mvN n x y ≤ n := by
  have h1 := Int.emod_nonneg (y - x) (show n ≠ 0 by omega)
  have h2 := Int.emod_lt_of_pos (y - x) (show 0 < n by omega)
  unfold mvN
  split <;> omega
theorem dsN_bd {n x y : Int} (hn : 2 ≤ n) : 0 ≤ dsN n x y ∧ 2 * dsN n x y ≤ n := by
  have := mvN_bd (x := x) (y := y) hn
  unfold dsN; omega
theorem movement_f {n x y : Int} (hn : 2 ≤ n) (hn2 : n ≤ 16) (hx : 0 ≤ x ∧ x < n) (hy : 0 ≤ y ∧ y < n) : voices_circle_movement.f n x y = some (mvN n x y) := by
  have h1 := Int.emod_nonneg (y - x) (show n ≠ 0 by omega)
  have h2 := Int.emod_lt_of_pos (y - x) (show 0 < n by omega)
  unfold voices_circle_movement.f
  rw [wrap_id (n := y - x) (by omega) (by omega), mod_f hn hn2, Option.bind_some]
  unfold mvN
  rw [wrap_id (n := 2 * ((y - x) % n)) (by omega) (by omega)]
  split
  · rw [wrap_id (by omega) (by omega)]
  · rfl
theorem distance_f {n x y : Int} (hn : 2 ≤ n) (hn2 : n ≤ 16) (hx : 0 ≤ x ∧ x < n) (hy : 0 ≤ y ∧ y < n) : voices_circle_distance.f n x y = some (dsN n x y) := by
  have := mvN_bd (x := x) (y := y) hn
  unfold voices_circle_distance.f
  rw [movement_f hn hn2 hx hy, Option.bind_some]
  unfold voices_abs.f
  rw [wrap_id (by omega) (by omega), mx_eq]
  rfl
def prI (n : Int) (a b : List Int) : List Int → Nat → Int
  | [], _ => 0
  | k :: l, i => dsN n (a.getD i 0) (b.getD k.toNat 0) + prI n a b l (i + 1)
theorem prI_bd {n : Int} (hn : 2 ≤ n) (a b : List Int) : ∀ (l : List Int) (i : Nat), 0 ≤ prI n a b l i ∧ 2 * prI n a b l i ≤ n * l.length
  | [], _ => by simp [prI]
  | k :: l, i => by
    have h := prI_bd hn a b l (i + 1)
    have h2 := dsN_bd (n := n) (x := a.getD i 0) (y := b.getD k.toNat 0) hn
    simp only [prI, List.length_cons]
    rw [Int.natCast_add, Int.mul_add n, show n * ((1 : Nat) : Int) = n by simp]
    generalize n * (l.length : Int) = q at h ⊢
    omega
theorem getD_mem {l : List Int} {i : Nat} (h : i < l.length) : l.getD i 0 ∈ l := by rw [List.getD_eq_getElem?_getD, List.getElem?_eq_getElem h]; exact List.getElem_mem h
theorem price_ev {n : Int} {a b : List Int} (ha : VoiN n a) (hb : VoiN n b) (full : List Int) (hf : full.length ≤ a.length) (hk : ∀ k ∈ full, 0 ≤ k ∧ k < b.length) : Ev (fun k => voices_circle_price.f k n a b full) (prI n a b full 0) := by
  obtain ⟨hn, hn2, ha1, ha2, hax⟩ := ha
  obtain ⟨_, _, hb1, hb2, hbx⟩ := hb
  have loop : ∀ (rest pre : List Int) (acc : Int), full = pre ++ rest → 0 ≤ acc → acc ≤ 16 * pre.length →
      Ev (fun k => voices_circle_price.l0 k n a b acc full (full.length : Int) (pre.length : Int)) (acc + prI n a b rest pre.length) := by
    intro rest
    induction rest with
    | nil =>
      intro pre acc hp h0 h1
      have p1 : ¬ (pre.length : Int) < (full.length : Int) := by rw [hp]; simp
      refine Ev.succ ?_
      simp only [voices_circle_price.l0, if_neg p1, prI, Int.add_zero]
      exact Ev.some _
    | cons x rest ih =>
      intro pre acc hp h0 h1
      have hlen : full.length = pre.length + (rest.length + 1) := by rw [hp]; simp
      have p1 : (pre.length : Int) < (full.length : Int) := by omega
      have p0 : (0 : Int) ≤ (pre.length : Int) := by omega
      have pa : (pre.length : Int) < (a.length : Int) := by omega
      have hrd : rd full (pre.length : Int) = x := mid_rd hp
      have hx := hk x (by rw [hp]; simp)
      have hda := getD_mem (l := a) (i := pre.length) (by omega)
      have hdb := getD_mem (l := b) (i := x.toNat) (by omega)
      have e1 : rd a (pre.length : Int) = a.getD pre.length 0 := rd_nat _ _
      have e2 : rd b x = b.getD x.toNat 0 := rfl
      have hd := dsN_bd (n := n) (x := a.getD pre.length 0) (y := b.getD x.toNat 0) hn
      have hdf := distance_f hn hn2 (hax _ hda) (hbx _ hdb)
      have hw : wrap64 ((pre.length : Int) + 1) = ((pre ++ [x]).length : Int) := by rw [wrap_id (by omega) (by omega)]; simp
      have hw2 : wrap64 (acc + dsN n (a.getD pre.length 0) (b.getD x.toNat 0)) = acc + dsN n (a.getD pre.length 0) (b.getD x.toNat 0) := wrap_id (by omega) (by omega)
      have hl1 : (pre ++ [x]).length = pre.length + 1 := by simp
      have go := ih (pre ++ [x]) (acc + dsN n (a.getD pre.length 0) (b.getD x.toNat 0)) (by rw [hp]; simp) (by omega) (by rw [hl1]; omega)
      rw [hl1] at go
      refine Ev.succ ?_
      simp only [voices_circle_price.l0, if_pos p1, if_pos p0, if_pos pa, hrd, if_pos hx.1, if_pos hx.2, e1, e2]
      refine Ev.bind_some hdf ?_
      rw [hw, hw2, hl1]
      simp only [prI]
      rw [← Int.add_assoc]
      exact go
  have h := loop full [] 0 rfl (Int.le_refl _) (by simp)
  rw [Int.zero_add] at h
  exact h

end Go.Proofs.Ytfjafmgaahfhgaa.P
namespace Go.Proofs.Ytfjafmgaahfhgaa.P
open Go.RowKit Go.Proofs.YtfjafmgaahfhgaaW.PrintWords Go.Proofs.YtfjafmgaahfhgaaW.PrintLast Go.Proofs.YtfjafmgaahfhgaaW.PrintMore
attribute [local go_sem] max2_int min2_int max_two min_two max_three min_three max_four min_four   -- for this text's walks alone
set_option linter.unusedVariables false
set_option linter.unusedSimpArgs false

/-! voices.best with always: the least cost -/
def prV (n : Int) (a b : List Int) (x : List Nat) : Int := prI n a b (nums x) 0
def bestV (n : Int) (a b : List Int) : Option (List Nat) × Int := bfold (prV n a b) (fun _ => true) (ldg a.length a.length 0 [])
theorem always_calls (v : Value) (W : World) : Calls Try.prog 39 #[v] W fun e W' => e = .returned (.bool true) ∧ Below W.heap.size W W' := by
  go_enter Try.func39, Try.ntmps39
  go_wp2
  go_ret
  exact ⟨rfl, Below.refl _ _⟩
theorem price_nums {n : Int} {a b : List Int} (h : TwoN n a b) (x : List Nat) (hx : x.length = a.length) (hl : ∀ y ∈ x, y < a.length) : ∃ kk, voices_circle_price.f kk n a b (nums x) = some (prV n a b x) :=
  Ev.rounds (g := fun k => voices_circle_price.f k n a b (nums x)) (price_ev h.1 h.2.1 (nums x) (by rw [nums_length]; omega) (fun k hk => by
    unfold nums at hk
    rw [List.mem_map] at hk
    obtain ⟨y, hy, rfl⟩ := hk
    have := hl y hy
    have := h.2.2
    show (0 : Int) ≤ (y : Int) ∧ (y : Int) < _
    omega))
theorem best_two {n : Int} {Aa : Option Addr} {ca : Nat} {a : List Int} {Ab : Option Addr} {cb : Nat} {b : List Int} {w : World} (h : TwoN n a b) (hra : Kd.C (Kd.int .i64) w Aa a.length a) (hca : a.length ≤ ca) (hrb : Kd.C (Kd.int .i64) w Ab b.length b) (hcb : b.length ≤ cb) :
    Calls Try.prog 38 #[.int .i64 n, .slice Aa a.length ca, .slice Ab b.length cb, .func (.func 39) #[] #[]] w (BestPost w (bestV n a b).1 (bestV n a b).2) :=
  best_calls w n Aa ca a Ab cb b 39 #[] (prV n a b) (fun _ => true) (enters_of Try.func39 (by kernel_rfl) rfl) a.length rfl h.1.2.2.1 (by have := h.1.2.2.2.1; omega) (fun x A c W _ _ _ _ _ => always_calls _ W) (price_nums h) hra hca hrb hcb

end Go.Proofs.Ytfjafmgaahfhgaa.P
namespace Go.Proofs.Ytfjafmgaahfhgaa.P
open Go.RowKit Go.Proofs.YtfjafmgaahfhgaaW.PrintWords Go.Proofs.YtfjafmgaahfhgaaW.PrintLast Go.Proofs.YtfjafmgaahfhgaaW.PrintMore
attribute [local go_sem] max2_int min2_int max_two min_two max_three min_three max_four min_four   -- for this text's walks alone
set_option linter.unusedVariables false
set_option linter.unusedSimpArgs false

/-! voices.Cost -/
def voices_Cost.f (a0 : Int) (l1 l2 : List Int) : Option (Int × Int) := if TwoN a0 l1 l2 then some ((bestV a0 l1 l2).2, 0) else some (0, 2)
set_option maxHeartbeats 8000000 in
set_option maxRecDepth 100000 in
theorem voices_Cost.calls (a0 : Int) (A1 : Option Addr) (c1 : Nat) (l1 : List Int) (A2 : Option Addr) (c2 : Nat) (l2 : List Int) (r1 r2 : Int) (w : World) (hr1 : Kd.C (Kd.int .i64) w A1 l1.length l1) (hc1 : l1.length ≤ c1) (hr2 : Kd.C (Kd.int .i64) w A2 l2.length l2) (hc2 : l2.length ≤ c2) (h : voices_Cost.f a0 l1 l2 = some (r1, r2)) :
    Calls Try.prog 18 #[.int .i64 a0, .slice A1 l1.length c1, .slice A2 l2.length c2] w fun e w' => e = .returned (.tuple #[.int .i64 r1, .int .i64 r2]) ∧ Below w.heap.size w w' := by
  have HB := Aside0.mk (Below.refl w.heap.size w)
  have HO1 := Aside0.mk (Kd.V_mono (ok' := (fun k_ => ((k_ < w.heap.size ∨ k_ < w.heap.size) ∨ w.heap.size ≤ k_))) (V_of_C (e := 3) (base := w.heap.size) hr1 hc1) (fun _ hk => .inl (.inl hk)))
  have HO2 := Aside0.mk (Kd.V_mono (ok' := (fun k_ => ((k_ < w.heap.size ∨ k_ < w.heap.size) ∨ w.heap.size ≤ k_))) (V_of_C (e := 3) (base := w.heap.size) hr2 hc2) (fun _ hk => .inl (.inl hk)))
  have HR1 := Aside0.mk hr1
  have HR2 := Aside0.mk hr2
  have HC1 := Aside0.mk hc1
  have HC2 := Aside0.mk hc2
  unfold voices_Cost.f at h
  obtain ⟨k, hv⟩ := Ev.rounds (g := fun k => voices_circle_valid.f k a0 [l1, l2]) (valid2_ev a0 l1 l2)
  obtain ⟨y, hy⟩ : ∃ y : List (List Int), y = [l1, l2] := ⟨_, rfl⟩
  rw [← hy] at hv
  have HY := Aside0.mk hy
  clear hy hr1 hr2 hc1 hc2
  by_cases hc : TwoN a0 l1 l2
  · rw [decide_eq_true hc] at hv
    rw [if_pos hc] at h
    have HV := Aside0.mk hv
    have HT := Aside0.mk hc
    simp only [Option.some.injEq, Prod.mk.injEq] at h
    obtain ⟨hres, rfl⟩ := h
    have HRES := Aside0.mk hres
    clear hv hc hres
    go_enter Try.func18, Try.ntmps18
    go_wp2_with (first | ((with_reducible refine gate_dst (N := 13) rfl ?_); (try (refine gate_guard (by rfl) ?_; dsimp only)); refine Kd.N_lit (Kd.slice 3 (Kd.int .i64)) _ 23 ?hg (N' := 13) ?hd (xs := ([l1, l2] : List (List Int))) (inner := [.slice A1 l1.length c1, .slice A2 l2.length c2]) (ok := (fun k_ => ((k_ < w.heap.size ∨ k_ < w.heap.size) ∨ w.heap.size ≤ k_))) (okp := (fun k_ => ((k_ < w.heap.size ∨ k_ < w.heap.size) ∨ w.heap.size ≤ k_))) ?hr ?hp (fun _ hk => hk) ((show ∀ k_, w.heap.size ≤ k_ → (fun k_ => ((k_ < w.heap.size ∨ k_ < w.heap.size) ∨ w.heap.size ≤ k_)) k_ from fun k_ hk => (.inr (Nat.le_trans (below_size (by repeat (first | (with_reducible first | exact HB.out | apply below_alloc | apply pw_below_drewN | apply below_drew1) | exact HB.out))) hk))) _ (Nat.le_refl _)) (Below.refl _ _) (Nat.le_refl _) (by simp) ?_; (case hd => rfl); (case hg => rfl); (case hr => first | (go_simp; done) | (go_simp; rfl)); (case hp => exact (Reps.one (show Kd.FK (Kd.slice 3 (Kd.int .i64)) _ _ l1 [.slice A1 l1.length c1] from (Kd.FK_slice_mk (Kd.V_reads' (Kd.V_mono (ok' := (fun k_ => ((k_ < w.heap.size ∨ k_ < w.heap.size) ∨ w.heap.size ≤ k_))) (HO1.out) (fun k_ hk => hk))).2.1 (Kd.V_F (Kd.V_mono (ok' := (fun k_ => ((k_ < w.heap.size ∨ k_ < w.heap.size) ∨ w.heap.size ≤ k_))) (HO1.out) (fun k_ hk => hk))))) (Reps.one (show Kd.FK (Kd.slice 3 (Kd.int .i64)) _ _ l2 [.slice A2 l2.length c2] from (Kd.FK_slice_mk (Kd.V_reads' (Kd.V_mono (ok' := (fun k_ => ((k_ < w.heap.size ∨ k_ < w.heap.size) ∨ w.heap.size ≤ k_))) (HO2.out) (fun k_ hk => hk))).2.1 (Kd.V_F (Kd.V_mono (ok' := (fun k_ => ((k_ < w.heap.size ∨ k_ < w.heap.size) ∨ w.heap.size ≤ k_))) (HO2.out) (fun k_ hk => hk))))) (Reps.none _ _)))); intro v1002 w10 ho11 hb hg_ hnew_; clear hg_ hnew_; rw [← HY.out] at ho11; have n2_ := Aside0.mk (Kd.N_lower ho11 (below_size (by repeat (first | (with_reducible first | exact HB.out | apply below_alloc | apply pw_below_drewN | apply below_drew1) | exact HB.out)))); have n3_ := Aside0.mk (below_step (by repeat (first | (with_reducible first | exact HB.out | apply below_alloc | apply pw_below_drewN | apply below_drew1) | exact HB.out)) hb); clear HO1 HO2; clear HB; have HOV := n2_; have HB := n3_; clear n2_ n3_; clear hb ho11; obtain ⟨Ao12, co12, eo12⟩ := Kd.N_slice HOV.out; subst eo12) | ((with_reducible refine gate_callee (f := 36) rfl ?_); refine goesL_ (some 14) rfl rfl Try.func36 (by kernel_rfl) rfl #[.int .i64 a0, .slice Ao12 y.length co12] rfl (by (try simp only [List.map_toArray, List.map_cons, List.map_nil]); first | done | rfl) ?_; (with_reducible refine (voices_circle_valid.calls k a0 _ _ y true _ ?side1 ?side2 HV.out).mono ?_); (case side1 => repeat (first | exact (Kd.N_reads' HOV.out).2.2 | (with_reducible refine Kd.C_alloc ?_ _) | (with_reducible refine Kd.C_drewN ?_ _) | (with_reducible refine Kd.C_drew ?_))); (case side2 => exact (Kd.N_reads' HOV.out).2.1); rintro e w' ⟨rfl, ⟨nd, rfl⟩⟩; refine ⟨_, rfl, ?_⟩))
    go_wp2_with fail
    refine (best_two HT.out (Kd.C_below HR1.out (by repeat (first | (with_reducible first | exact HB.out | apply below_alloc | apply pw_below_drewN | apply below_drew1) | exact HB.out))) HC1.out (Kd.C_below HR2.out (by repeat (first | (with_reducible first | exact HB.out | apply below_alloc | apply pw_below_drewN | apply below_drew1) | exact HB.out))) HC2.out).mono ?_
    rintro e w12 ⟨A9, c9, rfl, hr9, hn9, hb9⟩
    have n0_ := Aside0.mk (below_step (by repeat (first | (with_reducible first | exact HB.out | apply below_alloc | apply pw_below_drewN | apply below_drew1) | exact HB.out)) hb9)
    have HR9 := Aside0.mk (Kd.R_lower hr9 (below_size (by repeat (first | (with_reducible first | exact HB.out | apply below_alloc | apply pw_below_drewN | apply below_drew1) | exact HB.out))))
    clear HB
    have HB := n0_
    clear n0_ hr9 hn9 hb9
    go_wp2
    go_ret2
    exact ⟨by rw [← HRES.out]; first | rfl | simp, HB.out⟩
  · rw [decide_eq_false hc] at hv
    rw [if_neg hc] at h
    have HV := Aside0.mk hv
    simp only [Option.some.injEq, Prod.mk.injEq] at h
    obtain ⟨rfl, rfl⟩ := h
    clear hv hc
    go_enter Try.func18, Try.ntmps18
    go_wp2_with (first | ((with_reducible refine gate_dst (N := 13) rfl ?_); (try (refine gate_guard (by rfl) ?_; dsimp only)); refine Kd.N_lit (Kd.slice 3 (Kd.int .i64)) _ 23 ?hg (N' := 13) ?hd (xs := ([l1, l2] : List (List Int))) (inner := [.slice A1 l1.length c1, .slice A2 l2.length c2]) (ok := (fun k_ => ((k_ < w.heap.size ∨ k_ < w.heap.size) ∨ w.heap.size ≤ k_))) (okp := (fun k_ => ((k_ < w.heap.size ∨ k_ < w.heap.size) ∨ w.heap.size ≤ k_))) ?hr ?hp (fun _ hk => hk) ((show ∀ k_, w.heap.size ≤ k_ → (fun k_ => ((k_ < w.heap.size ∨ k_ < w.heap.size) ∨ w.heap.size ≤ k_)) k_ from fun k_ hk => (.inr (Nat.le_trans (below_size (by repeat (first | (with_reducible first | exact HB.out | apply below_alloc | apply pw_below_drewN | apply below_drew1) | exact HB.out))) hk))) _ (Nat.le_refl _)) (Below.refl _ _) (Nat.le_refl _) (by simp) ?_; (case hd => rfl); (case hg => rfl); (case hr => first | (go_simp; done) | (go_simp; rfl)); (case hp => exact (Reps.one (show Kd.FK (Kd.slice 3 (Kd.int .i64)) _ _ l1 [.slice A1 l1.length c1] from (Kd.FK_slice_mk (Kd.V_reads' (Kd.V_mono (ok' := (fun k_ => ((k_ < w.heap.size ∨ k_ < w.heap.size) ∨ w.heap.size ≤ k_))) (HO1.out) (fun k_ hk => hk))).2.1 (Kd.V_F (Kd.V_mono (ok' := (fun k_ => ((k_ < w.heap.size ∨ k_ < w.heap.size) ∨ w.heap.size ≤ k_))) (HO1.out) (fun k_ hk => hk))))) (Reps.one (show Kd.FK (Kd.slice 3 (Kd.int .i64)) _ _ l2 [.slice A2 l2.length c2] from (Kd.FK_slice_mk (Kd.V_reads' (Kd.V_mono (ok' := (fun k_ => ((k_ < w.heap.size ∨ k_ < w.heap.size) ∨ w.heap.size ≤ k_))) (HO2.out) (fun k_ hk => hk))).2.1 (Kd.V_F (Kd.V_mono (ok' := (fun k_ => ((k_ < w.heap.size ∨ k_ < w.heap.size) ∨ w.heap.size ≤ k_))) (HO2.out) (fun k_ hk => hk))))) (Reps.none _ _)))); intro v1002 w10 ho11 hb hg_ hnew_; clear hg_ hnew_; rw [← HY.out] at ho11; have n2_ := Aside0.mk (Kd.N_lower ho11 (below_size (by repeat (first | (with_reducible first | exact HB.out | apply below_alloc | apply pw_below_drewN | apply below_drew1) | exact HB.out)))); have n3_ := Aside0.mk (below_step (by repeat (first | (with_reducible first | exact HB.out | apply below_alloc | apply pw_below_drewN | apply below_drew1) | exact HB.out)) hb); clear HO1 HO2; clear HB; have HOV := n2_; have HB := n3_; clear n2_ n3_; clear hb ho11; obtain ⟨Ao12, co12, eo12⟩ := Kd.N_slice HOV.out; subst eo12) | ((with_reducible refine gate_callee (f := 36) rfl ?_); refine goesL_ (some 14) rfl rfl Try.func36 (by kernel_rfl) rfl #[.int .i64 a0, .slice Ao12 y.length co12] rfl (by (try simp only [List.map_toArray, List.map_cons, List.map_nil]); first | done | rfl) ?_; (with_reducible refine (voices_circle_valid.calls k a0 _ _ y false _ ?side1 ?side2 HV.out).mono ?_); (case side1 => repeat (first | exact (Kd.N_reads' HOV.out).2.2 | (with_reducible refine Kd.C_alloc ?_ _) | (with_reducible refine Kd.C_drewN ?_ _) | (with_reducible refine Kd.C_drew ?_))); (case side2 => exact (Kd.N_reads' HOV.out).2.1); rintro e w' ⟨rfl, ⟨nd, rfl⟩⟩; refine ⟨_, rfl, ?_⟩))
    go_ret2
    exact ⟨by first | rfl | simp, (by repeat (first | (with_reducible first | exact HB.out | apply below_alloc | apply pw_below_drewN | apply below_drew1) | exact HB.out))⟩

end Go.Proofs.Ytfjafmgaahfhgaa.P
namespace Go.Proofs.Ytfjafmgaahfhgaa.P
open Go.RowKit Go.Proofs.YtfjafmgaahfhgaaW.PrintWords Go.Proofs.YtfjafmgaahfhgaaW.PrintLast Go.Proofs.YtfjafmgaahfhgaaW.PrintMore
attribute [local go_sem] max2_int min2_int max_two min_two max_three min_three max_four min_four   -- for this text's walks alone
set_option linter.unusedVariables false
set_option linter.unusedSimpArgs false

attribute [local go_sem] Oper.semAt_some
/-! what a body may write: KpC -/
/-- what a body may write is X (a block, and what lies there); all other cells stay -/
def KpC (X : Nat → Obj → Prop) (W W' : World) : Prop := W.heap.size ≤ W'.heap.size ∧ ∀ b o, ¬ X b o → W.heap[b]? = some o → o.isCells = true → W'.heap[b]? = some o
theorem KpC.refl (X : Nat → Obj → Prop) (W : World) : KpC X W W := ⟨Nat.le_refl _, fun _ _ _ h _ => h⟩
theorem KpC.trans {X : Nat → Obj → Prop} {A B C : World} (h : KpC X A B) (k : KpC X B C) : KpC X A C := ⟨Nat.le_trans h.1 k.1, fun b o hx ho hc => k.2 b o hx (h.2 b o hx ho hc) hc⟩
theorem KpC.of_grown {X : Nat → Obj → Prop} {A B : World} (h : A.grownBy B none) : KpC X A B := ⟨h.size, fun b o _ ho _ => (h.block b (Array.getElem?_eq_some_iff.1 ho).1 (by simp)).trans ho⟩
theorem KpC.putObj {X : Nat → Obj → Prop} (W : World) {l : Nat} {o o' : Obj} (hl : W.heap[l]? = some o) (hc : o.isCells = false) : KpC X W (W.putObj l o') :=
  ⟨by simp [World.putObj], fun b p _ hp hpc => by
    have hne : b ≠ l := fun e => by subst e; rw [hl] at hp; cases hp; rw [hc] at hpc; cases hpc
    exact (World.putObj_heap_other hne).trans hp⟩
theorem isCells_of {W : World} {b i : Nat} {v : Value} {o : Obj} (hc : W.cell? ⟨b, i, none⟩ = some v) (ho : W.heap[b]? = some o) : o.isCells = true := by
  unfold World.cell? at hc
  rw [ho] at hc
  cases o <;> simp_all [Obj.isCells]
theorem KpC.cell {X : Nat → Obj → Prop} {A B : World} (h : KpC X A B) {b i : Nat} {v : Value} (hx : ∀ o, A.heap[b]? = some o → ¬ X b o) (hc : A.cell? ⟨b, i, none⟩ = some v) : B.cell? ⟨b, i, none⟩ = some v := by
  obtain ⟨o, ho⟩ : ∃ o, A.heap[b]? = some o := ⟨_, Array.getElem?_eq_getElem (World.block_lt_of_cell? A _ hc)⟩
  have h2 := h.2 b o (hx o ho) ho (isCells_of hc ho)
  unfold World.cell? at hc ⊢
  rw [ho] at hc; rw [h2]; exact hc
theorem two_cells {W : World} {b : Nat} {u v : Value} {t : TypeId} (h : W.heap[b]? = some (.cells #[u, v] t)) : W.cell? ⟨b, 0, none⟩ = some u ∧ W.cell? ⟨b, 1, none⟩ = some v := by
  constructor <;> (unfold World.cell?; simp only [h]; simp)
theorem new_two (w : World) (u v : Value) (t : TypeId) : (w.alloc (.cells #[u, v] t)).cell? ⟨w.heap.size, 0, none⟩ = some u ∧ (w.alloc (.cells #[u, v] t)).cell? ⟨w.heap.size, 1, none⟩ = some v := by
  have h := World.alloc_heap_new w (.cells #[u, v] t)
  constructor <;> (unfold World.cell?; simp only [h]; simp)
def intO : Value → Int | .int _ q => q | _ => 0
theorem intO_less {n k : Nat} {z : Int} (hz : z = (k : Int) + 1) (hk : k < n) : n - (intO (.int .i64 z)).toNat < n - (intO (.int .i64 (k : Int))).toNat := by
  subst hz; simp only [intO]; omega
def GrowSt (A B : World) : Prop := A.grownBy B none

end Go.Proofs.Ytfjafmgaahfhgaa.P
namespace Go.Proofs.Ytfjafmgaahfhgaa.P
open Go.RowKit Go.Proofs.YtfjafmgaahfhgaaW.PrintWords Go.Proofs.YtfjafmgaahfhgaaW.PrintLast Go.Proofs.YtfjafmgaahfhgaaW.PrintMore
attribute [local go_sem] max2_int min2_int max_two min_two max_three min_three max_four min_four   -- for this text's walks alone
set_option linter.unusedVariables false
set_option linter.unusedSimpArgs false

attribute [local go_sem] Oper.semAt_some
/-! voices.all: all voicings with the tones rising, in order, as an iterator that writes blocks of its own between the rounds -/
def alN (n : Nat) : Nat → Nat → List Nat → List (List Nat)
  | 0, _, cur => [cur]
  | r + 1, f, cur => (List.range (n - f)).flatMap fun i => alN n r (f + i) (cur ++ [f + i])
def alTo (n r f : Nat) (cur : List Nat) (m : Nat) : List (List Nat) := (List.range m).flatMap fun i => alN n r (f + i) (cur ++ [f + i])
theorem alTo_succ (n r f : Nat) (cur : List Nat) (m : Nat) : alTo n r f cur (m + 1) = alTo n r f cur m ++ alN n r (f + m) (cur ++ [f + m]) := by
  unfold alTo; rw [List.range_succ]; simp
section
variable (P : World → Nat → Prop) (XB : Nat → Prop) (S bk bn k n l : Nat)
def alGrow : Value := .func (.func 61) #[] #[.pointer (some ⟨S + 1, 0, none⟩), .pointer (some ⟨bk, 0, none⟩), .pointer (some ⟨S, 0, none⟩), .pointer (some ⟨bn, 0, none⟩), .pointer (some ⟨S + 1 + 1, 0, none⟩)]
/-- the iterator's boxes -/
structure AlSt (cur : List Nat) (W : World) : Prop where
  ck : W.cell? ⟨bk, 0, none⟩ = some (.int .i64 (k : Int))
  cn : W.cell? ⟨bn, 0, none⟩ = some (.int .i64 (n : Int))
  cy : W.cell? ⟨S, 0, none⟩ = some (.func (.yield l) #[] #[])
  cvv : ∃ A c, W.cell? ⟨S + 1, 0, none⟩ = some (.slice A (nums cur).length c) ∧ Kd.R (Kd.int .i64) 3 W (S + 3) (fun i => ¬ P W i) (.slice A (nums cur).length c) (nums cur)
  fv : W.frozen? ⟨S + 1, 0, none⟩ = false
  cg : W.cell? ⟨S + 1 + 1, 0, none⟩ = some (alGrow S bk bn)
  nb : ∀ i, S ≤ i → i < S + 3 → ¬ P W i
/-- what the iterator does between two rounds -/
def AlSteps (A B : World) : Prop := Fr (P A) A B ∧ KeepsOthers A B
/-- what a round leaves -/
def AlKp (vals : Array Value) (A B : World) : Prop := KpC (fun b _ => XB b) A B ∧ ∀ i, P B i → P A i ∨ A.heap.size ≤ i ∨ ∃ v, v ∈ vals.toList ∧ v.ownBlock = some i
/-- what is known of the blocks that the rounds go by -/
def AlPI (A : World) : Prop := (∀ i, P A i → i < A.heap.size) ∧ ∀ B, Fr (P A) A B → ∀ i, P B i ↔ P A i
def AlEnc (x : List Nat) (W : World) (vals : Array Value) : Prop := ∃ (ad : Addr) (c base : Nat), vals = #[.slice (some ad) (nums x).length c] ∧ Kd.R (Kd.int .i64) 3 W base (fun i => ¬ P W i) (.slice (some ad) (nums x).length c) (nums x) ∧ ∀ W0 : Nat, W0 ≤ base → True
/-- a round, as the iterator takes it -/
def AlRound (xs : List (List Nat)) (J : List (List Nat) → World → Prop) : Prop := ∀ pre x rest W1 vals, xs = pre ++ x :: rest → J pre W1 → AlEnc P x W1 vals → YieldAt Fence.wide 1 Try.prog l vals W1 fun e W' => e = .returned (.bool true) ∧ J (pre ++ [x]) W' ∧ AlKp P XB vals W1 W'
def AlPost (J : List (List Nat) → World → Prop) (cur : List Nat) (L : List (List Nat)) (e : Ending) (w' : World) : Prop := e = .returned (.bool true) ∧ J L w' ∧ AlSt P S bk bn k n l cur w'
end
section
variable {P : World → Nat → Prop} {XB : Nat → Prop} {S bk bn k n l : Nat}
/-- over a step that leaves the cells of what the rounds go by, and of the iterator's own boxes -/
theorem AlSt.frame {cur : List Nat} {W W' : World} (h : AlSt P S bk bn k n l cur W) (hf : ∀ i o, i = bk ∨ i = bn ∨ (S ≤ i ∧ i < W.heap.size) → W.heap[i]? = some o → o.isCells = true → W'.heap[i]? = some o) (hP : ∀ i, P W' i → (S ≤ i ∧ i < S + 3) ∨ (∃ v, W.cell? ⟨S + 1, 0, none⟩ = some v ∧ v.ownBlock = some i) → P W i) : AlSt P S bk bn k n l cur W' := by
  obtain ⟨h1, h2, h3, ⟨A, c, h4, h5⟩, h6, h7, h8⟩ := h
  have lt : ∀ {a : Addr} {v : Value}, W.cell? a = some v → a.block < W.heap.size := fun h => World.block_lt_of_cell? W _ h
  have l3 := lt h3
  have l4 := lt h4
  have l7 := lt h7
  simp only at l3 l4 l7
  have hh : ∀ b v, (b = bk ∨ b = bn ∨ (S ≤ b ∧ b < W.heap.size)) → W.cell? ⟨b, 0, none⟩ = some v → W'.heap[b]? = W.heap[b]? := fun b v hb hv => by
    obtain ⟨o, ho⟩ : ∃ o, W.heap[b]? = some o := ⟨_, Array.getElem?_eq_getElem (lt hv)⟩
    exact (hf b o hb ho (isCells_of hv ho)).trans ho.symm
  have hc : ∀ b v, (b = bk ∨ b = bn ∨ (S ≤ b ∧ b < W.heap.size)) → W.cell? ⟨b, 0, none⟩ = some v → W'.cell? ⟨b, 0, none⟩ = some v := fun b v hb hv => by
    have e := hh b v hb hv
    unfold World.cell? at hv ⊢
    simp only [e]; exact hv
  have hz : W'.frozen? ⟨S + 1, 0, none⟩ = W.frozen? ⟨S + 1, 0, none⟩ := by unfold World.frozen?; simp only [hh (S + 1) _ (.inr (.inr ⟨by omega, by omega⟩)) h4]
  refine ⟨hc _ _ (.inl rfl) h1, hc _ _ (.inr (.inl rfl)) h2, hc _ _ (.inr (.inr ⟨by omega, by omega⟩)) h3, ⟨A, c, hc _ _ (.inr (.inr ⟨by omega, by omega⟩)) h4, ?_⟩, hz.trans h6, hc _ _ (.inr (.inr ⟨by omega, by omega⟩)) h7, fun i h9 h10 h11 => h8 i h9 h10 (hP i h11 (.inl ⟨h9, h10⟩))⟩
  have hown := Kd.own_of_R h5
  have hbase := Kd.R_base h5
  have hlt := Kd.R_lt h5
  have h10 := Kd.R_move (w1 := W') (Kd.R_tight rfl h5) (fun i hi => by
    obtain ⟨cells, hcl⟩ := own_typed hown i hi.symm
    rw [hcl]
    exact hf i _ (.inr (.inr ⟨by have := hbase i hi.symm; omega, hlt i hi.symm⟩)) hcl rfl)
  refine Kd.R_mono h10 (fun i hi hp => ?_)
  exact h5.1 i hi.symm (hP i hp (.inr ⟨_, h4, hi.symm⟩))
end
section
variable {P : World → Nat → Prop} {XB : Nat → Prop} {S bk bn k n l : Nat}
set_option maxHeartbeats 4000000 in
set_option maxRecDepth 100000 in
theorem al_end {J : List (List Nat) → World → Prop} {xs : List (List Nat)} (hR : AlRound P XB l xs J) (hJs : ∀ s A B, J s A → AlSteps P A B → J s B) (hPI : ∀ s A, J s A → AlPI P A) (hXB : ∀ i, XB i → i < S ∧ i ≠ bk ∧ i ≠ bn) (hk1 : 1 ≤ k) (hk : k ≤ 100) (fr : Int) (cur : List Nat) (pre rest : List (List Nat)) (W : World) (hc : cur.length = k) (hx : xs = pre ++ cur :: rest) (hJ : J pre W) (hL : AlSt P S bk bn k n l cur W) :
    CallsIn Fence.wide 2 Try.prog 61 #[.int .i64 fr, .pointer (some ⟨S + 1, 0, none⟩), .pointer (some ⟨bk, 0, none⟩), .pointer (some ⟨S, 0, none⟩), .pointer (some ⟨bn, 0, none⟩), .pointer (some ⟨S + 1 + 1, 0, none⟩)] W (AlPost P S bk bn k n l J cur (pre ++ [cur])) := by
  have HL := Aside0.mk hL
  obtain ⟨A, c, cl, hRr⟩ := hL.cvv
  have ck := hL.ck
  have cy := hL.cy
  have hlen : (nums cur).length = k := by rw [nums_length, hc]
  have hrd := Kd.R_reads' hRr
  have HRR := Aside0.mk (hlen ▸ hRr)
  have HRD := Aside0.mk hrd
  have HLEN := Aside0.mk hlen
  rw [hlen] at cl
  have heq : ((k : Int) == (k : Int)) = true := beq_self_eq_true _
  clear hL hRr hrd hlen
  refine callsIn_of_wp Try.func61 rfl trivial ?_ rfl
  simp only [Try.ntmps61, List.size_toArray, List.length_cons, List.length_nil, Nat.reduceAdd, Nat.reduceSub, Array.replicate_succ, Array.replicate_zero, List.push_toArray, List.append_toArray, List.nil_append, List.cons_append]
  gi_wp2
  have hcf := clone_f cur (by omega)
  have HCLN := Aside0.mk (show ∀ V, Below W.heap.size W V → Calls Try.prog 29 #[.slice A k c] V fun e w' => ∃ (ad : Addr) (c2 : Nat), e = .returned (.slice (some ad) k c2) ∧ Kd.R (Kd.int .i64) 3 w' W.heap.size (fun _ => True) (.slice (some ad) k c2) (nums cur) ∧ Below W.heap.size W w' from fun V hV => by
    have h := slices_Clone_int_int.calls A c (nums cur) (nums cur) V (Kd.C_below HRD.out.2.2 hV) HRD.out.2.1 hcf
    rw [HLEN.out] at h
    refine h.mono ?_
    rintro e w' ⟨v, rfl, hr, hb⟩
    obtain ⟨A2, c2, rfl⟩ := Kd.R_slice hr
    obtain ⟨ad, e, _⟩ := Kd.at_int (Kd.R_reads' hr).2.2 0 (by omega) (by rw [HLEN.out]; omega)
    rw [HLEN.out] at hr ⊢
    subst e
    exact ⟨ad, c2, rfl, Kd.R_lower hr hV.size, below_step hV hb⟩)
  have HYD := Aside0.mk (show ∀ w2 ad c2, Kd.R (Kd.int .i64) 3 w2 W.heap.size (fun _ => True) (.slice (some ad) k c2) (nums cur) → Below W.heap.size W w2 → YieldAt Fence.wide 1 Try.prog l #[.slice (some ad) k c2] w2 fun e W' => e = .returned (.bool true) ∧ J (pre ++ [cur]) W' ∧ AlSt P S bk bn k n l cur W' from fun w2 ad c2 hr hb => by
    have hpi := hPI _ _ hJ
    have hfr : Fr (P W) W w2 := Fr.of_below hb (fun i hi => hpi.1 i hi)
    have hJ2 := hJs _ _ _ hJ ⟨hfr, KeepsOthers.of_grownBy (grown_of_below hb none) (fun j o e => by cases e)⟩
    have henc : AlEnc P cur w2 #[.slice (some ad) k c2] := ⟨ad, c2, W.heap.size, by rw [HLEN.out], by
      rw [HLEN.out]
      exact Kd.R_mono (Kd.R_bound hr) (fun i hi hp => by have := hpi.1 i ((hpi.2 _ hfr i).1 hp); have := hi.2.1; omega), fun _ _ => trivial⟩
    obtain ⟨fn, tmps, assign, body, hy, hRn⟩ := hR pre cur rest w2 _ hx hJ2 henc
    refine ⟨fn, tmps, assign, body, hy, hRn.mono ?_⟩
    rintro e w3 ⟨h1, h2, h3, h4⟩
    refine ⟨h1, h2, ?_⟩
    have hL2 : AlSt P S bk bn k n l cur w2 := HL.out.frame (fun i o hi ho _ => (hb.block i (Array.getElem?_eq_some_iff.1 ho).1).trans ho) (fun i hp _ => (hpi.2 _ hfr i).1 hp)
    refine hL2.frame (fun i o hi ho hc => h3.2 i o (fun hxb => ?_) ho hc) (fun i hp h5 => ?_)
    · have := hXB i hxb
      rcases hi with h | h | h
      · exact this.2.1 h
      · exact this.2.2 h
      · omega
    · have hiW : i < W.heap.size := by
        rcases h5 with h5 | ⟨v, h5, h6⟩
        · have := World.block_lt_of_cell? W _ HL.out.cg; simp only at this; omega
        · have h7 := (hb.cell (p := ⟨S + 1, 0, none⟩) (World.block_lt_of_cell? W _ cl)).trans cl
          rw [h5] at h7
          injection h7 with h7
          subst h7
          exact Kd.R_lt HRR.out i h6
      rcases h4 i hp with h7 | h7 | ⟨v, hv, h7⟩
      · exact h7
      · have := hb.size; omega
      · have hv2 : v = .slice (some ad) k c2 := by simpa using hv
        subst hv2
        have := Kd.R_base hr i h7
        omega)
  clear hcf
  have HBW := Aside0.mk (Below.refl W.heap.size W)
  gi_region_with (first
    | (refine ⟨trivial, ?_⟩; gi_at_call 29; refine (callsIn_wide.2 (HCLN.out _ ?hb)).mono ?_; (case hb => (repeat (first | exact Below.refl _ _ | apply below_drew1 | apply pw_below_drewN))); rintro e w2 ⟨ad, c2, rfl, hr2, hb2⟩; obtain ⟨fn, tmps, assign, body, hy, hRn⟩ := HYD.out w2 ad c2 hr2 hb2; have HRN := Aside0.mk hRn; have cy2 := (hb2.cell (p := ⟨S, 0, none⟩) (World.block_lt_of_cell? W _ HL.out.cy)).trans HL.out.cy; clear hr2 hb2 hRn)
    | (refine HRN.out.mono ?_; rintro e w3 ⟨rfl, hj3, hl3⟩))
  all_goals gi_wp2
  all_goals (refine bodyPost_ret (results_tmp rfl _ _ _) rfl ?_)
  all_goals exact ⟨rfl, by assumption, by assumption⟩
end

end Go.Proofs.Ytfjafmgaahfhgaa.P
