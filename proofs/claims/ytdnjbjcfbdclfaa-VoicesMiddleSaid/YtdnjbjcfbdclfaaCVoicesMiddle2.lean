/- A part of a proof that a law's Go function returns true for every input, laid by this session's program mp.py (which drives the kit's print). Conditions: as each theorem states them. -/
import Derived.StillTailTactics
import Derived.Laws.EntriesVeiled
import Derived.RangeFuncNested
import Derived.RangeFuncBound
import Derived.RangeFuncCalls
import Derived.RangeFuncLeaves
import Derived.Shelf.Abstract
import Derived.Shelf.RegionOpen
import Derived.Shelf.AbstractIn
import Derived.Sort.QuietIn
import Derived.OwnWalkIn
import Derived.TacticsInMore
import Derived.LoopNIn
import Derived.LoopIn
import Derived.Stop.RegionWithIn
import Derived.Maps.OwnIn
import Derived.RegionTactic
import Derived.ChangeAlike
import Derived.Test.YtdnjbjcfbdclfaaCVoicesMiddle1
namespace Go.Proofs.Ytdnjbjcfbdclfaa.P
open Go.RowKit Go.Proofs.YtdnjbjcfbdclfaaW.PrintWords Go.Proofs.YtdnjbjcfbdclfaaW.PrintLast Go.Proofs.YtdnjbjcfbdclfaaW.PrintMore
attribute [local go_sem] max2_int min2_int max_two min_two max_three min_three max_four min_four   -- for this text's walks alone
set_option linter.unusedVariables false
set_option linter.unusedSimpArgs false

/-! voices.best: the first leading with the least price among those that a function lets pass -/
def bstep (pr : List Nat → Int) (p : List Nat → Bool) (s : Option (List Nat) × Int) (l : List Nat) : Option (List Nat) × Int := if (s.1 = none ∨ pr l < s.2) ∧ p l = true then (some l, pr l) else s
def bfold (pr : List Nat → Int) (p : List Nat → Bool) (L : List (List Nat)) : Option (List Nat) × Int := L.foldl (bstep pr p) (none, 0)
theorem bfold_snoc (pr : List Nat → Int) (p : List Nat → Bool) (L : List (List Nat)) (l : List Nat) : bfold pr p (L ++ [l]) = bstep pr p (bfold pr p L) l := by unfold bfold; rw [List.foldl_append]; rfl
def optL (o : Option (List Nat)) : List Int := nums (o.getD [])
theorem R_only {e : Nat} {w : World} {base : Nat} {ok ok' : Nat → Prop} {v : Value} {xs : List Int} (h : Kd.R (Kd.int .i64) e w base ok v xs) (hok : ∀ k, v.ownBlock = some k → ok' k) : Kd.R (Kd.int .i64) e w base ok' v xs := by
  obtain ⟨_, inner, ho, hr⟩ := h
  exact ⟨hok, inner, ho, hr⟩
section
variable (w : World) (n : Int) (Aa : Option Addr) (ca : Nat) (a : List Int) (Ab : Option Addr) (cb : Nat) (b : List Int) (gis : Nat) (lbis : Array Value) (pr : List Nat → Int) (p : List Nat → Bool)
def PB (W : World) (i : Nat) : Prop := i < w.heap.size + 6 ∨ ∃ (A : Addr) (l c : Nat), W.cell? ⟨w.heap.size + 1 + 1 + 1 + 1, 0, none⟩ = some (.slice (some A) l c) ∧ A.block = i
structure BSt (s : List (List Nat)) (W : World) : Prop where
  bl : Below w.heap.size w W
  sz : w.heap.size + 6 ≤ W.heap.size
  c0 : W.cell? ⟨w.heap.size, 0, none⟩ = some (.int .i64 n)
  c1 : W.cell? ⟨w.heap.size + 1, 0, none⟩ = some (.slice Aa a.length ca)
  c2 : W.cell? ⟨w.heap.size + 1 + 1, 0, none⟩ = some (.slice Ab b.length cb)
  c3 : W.cell? ⟨w.heap.size + 1 + 1 + 1, 0, none⟩ = some (.func (.func gis) #[] lbis)
  c4 : ∃ A c, W.cell? ⟨w.heap.size + 1 + 1 + 1 + 1, 0, none⟩ = some (.slice A (optL (bfold pr p s).1).length c) ∧ Kd.R (Kd.int .i64) 3 W (w.heap.size + 10) (PB w W) (.slice A (optL (bfold pr p s).1).length c) (optL (bfold pr p s).1) ∧ A.isNone = (bfold pr p s).1.isNone
  c5 : W.cell? ⟨w.heap.size + 1 + 1 + 1 + 1 + 1, 0, none⟩ = some (.int .i64 (bfold pr p s).2)
  f4 : W.frozen? ⟨w.heap.size + 1 + 1 + 1 + 1, 0, none⟩ = false
  f5 : W.frozen? ⟨w.heap.size + 1 + 1 + 1 + 1 + 1, 0, none⟩ = false
theorem best_inter : Inter (w.heap.size + 6) (PB w) (BSt w n Aa ca a Ab cb b gis lbis pr p) := by
  refine ⟨fun s A B h hf => ?_, fun s A i h hp => ?_, fun s A i h h1 h2 hp => ?_⟩
  · have hc : ∀ i, i < w.heap.size + 6 → B.cell? ⟨i, 0, none⟩ = A.cell? ⟨i, 0, none⟩ := fun i hi => hf.cell (.inl hi) 0
    have hz : ∀ i, i < w.heap.size + 6 → B.frozen? ⟨i, 0, none⟩ = A.frozen? ⟨i, 0, none⟩ := fun i hi => hf.frozen (.inl hi) 0
    have hP : ∀ i, PB w B i ↔ PB w A i := fun i => by unfold PB; rw [hc _ (by omega)]
    obtain ⟨A4, c, h4, hR, hn⟩ := h.c4
    refine ⟨⟨h.bl.trans (hf.below (fun k hk => .inl (by omega))), Nat.le_trans h.sz hf.size, (hc _ (by omega)).trans h.c0, (hc _ (by omega)).trans h.c1, (hc _ (by omega)).trans h.c2, (hc _ (by omega)).trans h.c3, ⟨A4, c, (hc _ (by omega)).trans h4, ?_, hn⟩, (hc _ (by omega)).trans h.c5, (hz _ (by omega)).trans h.f4, (hz _ (by omega)).trans h.f5⟩, hP⟩
    exact Kd.R_mono (Kd.R_move hR (fun k hk => hf.block k hk)) (fun i hi => (hP i).2 hi)
  · have h1 := h.sz
    rcases hp with hp | ⟨A0, l, c, h4, rfl⟩
    · omega
    · obtain ⟨A4, c4, h4', hR, _⟩ := h.c4
      rw [h4] at h4'
      injection h4' with h4'
      injection h4' with e1 e2 e3
      subst e1
      exact Kd.R_lt hR _ rfl
  · rcases hp with hp | ⟨A0, l, c, h4, rfl⟩
    · omega
    · obtain ⟨A4, c4, h4', hR, _⟩ := h.c4
      rw [h4] at h4'
      injection h4' with h4'
      injection h4' with e1 e2 e3
      subst e1
      have := Kd.R_base hR _ rfl
      omega
/-- what the function that lets pass answers -/
def GivesIs (k : Nat) : Prop := ∀ (x : List Nat) (A : Option Addr) (c : Nat) (W : World), x.length = k → (∀ y ∈ x, y < k) → (nums x).length ≤ c → Kd.C (Kd.int .i64) W A (nums x).length (nums x) → Below w.heap.size w W →
  Calls Try.prog gis (#[.slice A (nums x).length c] ++ lbis) W fun e W' => e = .returned (.bool (p x)) ∧ Below W.heap.size W W'
def MoreLb : Array Value := #[.pointer (some ⟨w.heap.size, 0, none⟩), .pointer (some ⟨w.heap.size + 1, 0, none⟩), .pointer (some ⟨w.heap.size + 1 + 1, 0, none⟩), .pointer (some ⟨w.heap.size + 1 + 1 + 1 + 1, 0, none⟩), .pointer (some ⟨w.heap.size + 1 + 1 + 1 + 1 + 1, 0, none⟩), .pointer (some ⟨w.heap.size + 1 + 1 + 1, 0, none⟩)]
theorem clone_f (x : List Nat) (h : x.length ≤ 1000) : slices_Clone_int_int.f (nums x) = some (nums x) := by unfold slices_Clone_int_int.f; rw [if_pos (by rw [nums_length]; omega)]
/-- nothing new is kept -/
theorem BSt.same {s : List (List Nat)} {x : List Nat} {W W' : World} (h : BSt w n Aa ca a Ab cb b gis lbis pr p s W) (hb : Below W.heap.size W W') (he : bstep pr p (bfold pr p s) x = bfold pr p s) :
    BSt w n Aa ca a Ab cb b gis lbis pr p (s ++ [x]) W' ∧ Fr (fun i => w.heap.size + 6 ≤ i ∧ i < W.heap.size) W W' ∧ (∀ i, PB w W' i → PB w W i ∨ W.heap.size ≤ i) := by
  have hI := best_inter w n Aa ca a Ab cb b gis lbis pr p
  have hk := hI.keep s W W' h (Fr.of_below hb (fun k hk => hI.lt s W k h hk))
  have e : bfold pr p (s ++ [x]) = bfold pr p s := by rw [bfold_snoc, he]
  refine ⟨?_, Fr.of_below hb (fun k hk => hk.2), fun i hi => .inl ((hk.2 i).1 hi)⟩
  obtain ⟨h1, h2, h3, h4, h5, h6, h7, h8, h9, h10⟩ := hk.1
  exact ⟨h1, h2, h3, h4, h5, h6, by rw [e]; exact h7, by rw [e]; exact h8, h9, h10⟩
/-- the new leading is kept -/
theorem BSt.put {s : List (List Nat)} {x : List Nat} {W w2 w3 : World} {A : Option Addr} {c : Nat} (h : BSt w n Aa ca a Ab cb b gis lbis pr p s W) (hb : Below W.heap.size W w2) (hb2 : Below w2.heap.size w2 w3)
    (hR : Kd.R (Kd.int .i64) 3 w3 w2.heap.size (fun _ => True) (.slice A (nums x).length c) (nums x)) (hx : 1 ≤ x.length) (hsz : w.heap.size + 10 ≤ W.heap.size) (he : bstep pr p (bfold pr p s) x = (some x, pr x)) :
    BSt w n Aa ca a Ab cb b gis lbis pr p (s ++ [x]) ((w3.setCell ⟨w.heap.size + 1 + 1 + 1 + 1, 0, none⟩ (.slice A (nums x).length c)).setCell ⟨w.heap.size + 1 + 1 + 1 + 1 + 1, 0, none⟩ (.int .i64 (pr x))) ∧
      Fr (fun i => w.heap.size + 6 ≤ i ∧ i < W.heap.size) W ((w3.setCell ⟨w.heap.size + 1 + 1 + 1 + 1, 0, none⟩ (.slice A (nums x).length c)).setCell ⟨w.heap.size + 1 + 1 + 1 + 1 + 1, 0, none⟩ (.int .i64 (pr x))) ∧
      (∀ i, PB w ((w3.setCell ⟨w.heap.size + 1 + 1 + 1 + 1, 0, none⟩ (.slice A (nums x).length c)).setCell ⟨w.heap.size + 1 + 1 + 1 + 1 + 1, 0, none⟩ (.int .i64 (pr x))) i → PB w W i ∨ W.heap.size ≤ i) := by
  have hb3 : Below W.heap.size W w3 := hb.trans (hb2.mono hb.size)
  have hA : ∃ ad, A = some ad := by
    obtain ⟨ad, e, _⟩ := Kd.at_int (Kd.R_reads' hR).2.2 0 (by omega) (by rw [nums_length]; omega)
    exact ⟨ad, e⟩
  obtain ⟨ad, rfl⟩ := hA
  have hbase : w2.heap.size ≤ ad.block := Kd.R_base hR _ rfl
  have hlt : ad.block < w3.heap.size := Kd.R_lt hR _ rfl
  have hs2 := hb.size
  have hs3 := hb2.size
  obtain ⟨W', hW'⟩ : ∃ W', (w3.setCell ⟨w.heap.size + 1 + 1 + 1 + 1, 0, none⟩ (.slice (some ad) (nums x).length c)).setCell ⟨w.heap.size + 1 + 1 + 1 + 1 + 1, 0, none⟩ (.int .i64 (pr x)) = W' := ⟨_, rfl⟩
  have hblk : ∀ i, i ≠ w.heap.size + 4 → i ≠ w.heap.size + 5 → W'.heap[i]? = w3.heap[i]? := fun i h1 h2 => by
    rw [← hW']
    exact (Below.heap_setCell _ _ _ _ (by simp only [ne_eq]; omega)).trans (Below.heap_setCell _ _ _ _ (by simp only [ne_eq]; omega))
  have hc3 : ∀ i, i < w.heap.size + 6 → w3.cell? ⟨i, 0, none⟩ = W.cell? ⟨i, 0, none⟩ := fun i hi => hb3.cell (p := ⟨i, 0, none⟩) (by simp only; omega)
  have hcell : ∀ i, i < w.heap.size + 4 → W'.cell? ⟨i, 0, none⟩ = W.cell? ⟨i, 0, none⟩ := fun i hi => (by unfold World.cell?; simp only [hblk i (by omega) (by omega)] : W'.cell? ⟨i, 0, none⟩ = w3.cell? ⟨i, 0, none⟩).trans (hc3 i (by omega))
  have h4o : (w3.cell? ⟨w.heap.size + 1 + 1 + 1 + 1, 0, none⟩).isSome = true := by
    rw [hc3 _ (by omega)]; obtain ⟨A, c, h4, _⟩ := h.c4; rw [h4]; rfl
  have h5o : (w3.cell? ⟨w.heap.size + 1 + 1 + 1 + 1 + 1, 0, none⟩).isSome = true := by rw [hc3 _ (by omega), h.c5]; rfl
  have n4 : W'.cell? ⟨w.heap.size + 1 + 1 + 1 + 1, 0, none⟩ = some (.slice (some ad) (nums x).length c) := by
    rw [← hW']
    exact (World.cell?_setCell_far _ _ _ _ (by simp only [ne_eq]; omega)).trans (World.cell?_setCell_same' _ _ _ h4o)
  have n5 : W'.cell? ⟨w.heap.size + 1 + 1 + 1 + 1 + 1, 0, none⟩ = some (.int .i64 (pr x)) := by
    rw [← hW']
    exact World.cell?_setCell_same' _ _ _ (by rw [World.cell?_setCell_far _ _ _ _ (by simp only [ne_eq]; omega)]; exact h5o)
  have hfz : ∀ i, i < w.heap.size + 6 → W'.frozen? ⟨i, 0, none⟩ = W.frozen? ⟨i, 0, none⟩ := fun i hi => by
    rw [← hW', World.frozen?_setCell, World.frozen?_setCell]
    exact hb3.frozen (p := ⟨i, 0, none⟩) (by simp only; omega)
  have hsz' : W'.heap.size = w3.heap.size := by rw [← hW']; simp [World.setCell]
  have hP : ∀ i, PB w W' i ↔ (i < w.heap.size + 6 ∨ ad.block = i) := fun i => by
    unfold PB
    rw [n4]
    constructor
    · rintro (h | ⟨A0, l0, c0, e, rfl⟩)
      · exact .inl h
      · injection e with e; injection e with e; injection e with e; exact .inr (by rw [e])
    · rintro (h | rfl)
      · exact .inl h
      · exact .inr ⟨ad, _, _, rfl, rfl⟩
  have hfr : Fr (fun i => w.heap.size + 6 ≤ i ∧ i < W.heap.size) W W' := by
    refine (Fr.of_below hb3 (fun k hk => hk.2)).trans ?_
    rw [← hW']
    exact (Fr.setCell _ _ (by simp only; omega)).trans (Fr.setCell _ _ (by simp only; omega))
  have hbw : Below w.heap.size w W' := by
    rw [← hW']
    exact (((h.bl.trans (hb3.mono h.bl.size)).setCell (p := ⟨w.heap.size + 1 + 1 + 1 + 1, 0, none⟩) (by simp only; omega) _).setCell (p := ⟨w.heap.size + 1 + 1 + 1 + 1 + 1, 0, none⟩) (by simp only; omega) _)
  have e : bfold pr p (s ++ [x]) = (some x, pr x) := by rw [bfold_snoc, he]
  rw [hW']
  refine ⟨⟨hbw, by omega, (hcell _ (by omega)).trans h.c0, (hcell _ (by omega)).trans h.c1, (hcell _ (by omega)).trans h.c2, (hcell _ (by omega)).trans h.c3, ⟨some ad, c, by rw [e]; exact n4, ?_, by rw [e]; rfl⟩, by rw [e]; exact n5, (hfz _ (by omega)).trans h.f4, (hfz _ (by omega)).trans h.f5⟩, hfr, fun i hi => ?_⟩
  · rw [e]
    have h1 := Kd.R_move (w1 := W') (R_only hR (ok' := fun k => k = ad.block) (fun k hk => by simpa [Value.ownBlock] using hk.symm)) (fun k hk => hblk k (by omega) (by omega))
    exact Kd.R_lower (Kd.R_mono h1 (fun k hk => (hP k).2 (.inr hk.symm))) (by omega)
  · rcases (hP i).1 hi with h1 | rfl
    · exact .inl (.inl h1)
    · exact .inr (by omega)
theorem C_below_ {A : Option Addr} {m : Nat} {xs : List Int} {W W' : World} (h : Kd.C (Kd.int .i64) W A m xs) (hb : Below W.heap.size W W') : Kd.C (Kd.int .i64) W' A m xs := Kd.C_below h hb
set_option maxHeartbeats 8000000 in
set_option maxRecDepth 100000 in
theorem best_more (egis : ∀ args w, (callFunc gis args).run Try.prog w = .ok (.enter gis args) w) (k : Nat) (hk1 : 1 ≤ k) (hk2 : k ≤ 20) (hp : GivesIs w gis lbis p k) (hpr : ∀ x : List Nat, x.length = k → (∀ y ∈ x, y < k) → ∃ kk, voices_circle_price.f kk n a b (nums x) = some (pr x)) (hra : Kd.C (Kd.int .i64) w Aa a.length a) (hca : a.length ≤ ca) (hrb : Kd.C (Kd.int .i64) w Ab b.length b) (hcb : b.length ≤ cb) :
    MoreCalls (w.heap.size + 6) k 53 (MoreLb w) (PB w) (BSt w n Aa ca a Ab cb b gis lbis pr p) := by
  intro pre x A c W hJ hx hxl hc hC hA
  obtain ⟨kk, hkk⟩ := hpr x hx hxl
  have HX1 := Aside0.mk (show 1 ≤ x.length by omega)
  have HSZ : Aside0 (w.heap.size + 10 ≤ W.heap.size) := ⟨by
    obtain ⟨ad, e, hcell⟩ := Kd.at_int hC 0 (by omega) (by rw [nums_length]; omega)
    have h1 := hA ad e
    have h2 := World.block_lt_of_cell? W _ hcell
    have h3 : (ad.add (0 : Int).toNat).block = ad.block := rfl
    rw [h3] at h2
    omega⟩
  have HBS := Aside0.mk hJ
  have HCF := Aside0.mk (clone_f x (by omega))
  have HKC := Aside0.mk hC
  have HCC := Aside0.mk hc
  have HPR := Aside0.mk (voices_circle_price.calls kk n Aa ca a Ab cb b A c (nums x) (pr x) W (Kd.C_below hra hJ.bl) hca (Kd.C_below hrb hJ.bl) hcb hC hc hkk)
  have HIS := Aside0.mk (fun (w1 : World) (hb : Below W.heap.size W w1) => hp x A c w1 hx hxl hc (Kd.C_below hC hb) (hJ.bl.trans (hb.mono hJ.bl.size)))
  have c0 := hJ.c0
  have c1 := hJ.c1
  have c2 := hJ.c2
  have c3 := hJ.c3
  have c5 := hJ.c5
  obtain ⟨A4, cc4, c4, -, hn4⟩ := hJ.c4
  have q22 : ∀ (w : World) (a : Option Addr) (n c n' c' : Nat), (binOp .eql 22 (.slice a n c) (.slice none n' c')).run Try.prog w = .ok (.bool a.isNone) w := fun w a n c n' c' => Lib.run_eql_slice_nil w _ _ a n c n' c' Try.underlying22
  generalize hL4 : (optL (bfold pr p pre).1).length = l4 at c4
  clear hL4
  have HN4 := Aside0.mk hn4
  have hsz6 := hJ.sz
  have HSW := Aside0.mk hJ.bl.size
  have hszW : w.heap.size + 10 ≤ W.heap.size := HSZ.out
  generalize hs2 : (bfold pr p pre).2 = s2 at c5
  have HS2 := Aside0.mk hs2
  clear hs2 hn4 hJ hC hA hkk hpr hp hx hxl hra hrb
  generalize hnx : (nums x).length = lx at *
  have HNX := Aside0.mk hnx
  clear hnx
  obtain ⟨px, hpx⟩ : ∃ px, p x = px := ⟨_, rfl⟩
  have HPX := Aside0.mk hpx
  rw [hpx] at HIS
  clear hpx
  obtain ⟨cx, hcx⟩ : ∃ cx, pr x = cx := ⟨_, rfl⟩
  have HCX := Aside0.mk hcx
  rw [hcx] at HPR
  clear hcx
  unfold MoreLb
  cases hs1 : (bfold pr p pre).1 with
  | none =>
    rw [hs1] at HN4
    have hA4 : A4 = none := by have := HN4.out; cases A4 with
      | none => rfl
      | some _ => cases this
    subst hA4
    have HS1 := Aside0.mk hs1
    clear hs1 HN4
    cases px with
    | true =>
      have H4 := Aside0.mk c4
      have H5 := Aside0.mk c5
      have HE : Aside0 (bstep pr p (bfold pr p pre) x = (some x, pr x)) := ⟨by unfold bstep; rw [if_pos ⟨.inl HS1.out, HPX.out⟩]⟩
      go_enter Try.func53, Try.ntmps53
      go_wp2_with fail
      refine HPR.out.mono ?_
      rintro e w1 ⟨rfl, hb1⟩
      have d3 : w1.cell? ⟨w.heap.size + 1 + 1 + 1, 0, none⟩ = some (.func (.func gis) #[] lbis) := (hb1.cell (p := ⟨w.heap.size + 1 + 1 + 1, 0, none⟩) (by simp only; omega)).trans c3
      have d4 : w1.cell? ⟨w.heap.size + 1 + 1 + 1 + 1, 0, none⟩ = some (.slice none l4 cc4) := (hb1.cell (p := ⟨w.heap.size + 1 + 1 + 1 + 1, 0, none⟩) (by simp only; omega)).trans c4
      have d5 : w1.cell? ⟨w.heap.size + 1 + 1 + 1 + 1 + 1, 0, none⟩ = some (.int .i64 s2) := (hb1.cell (p := ⟨w.heap.size + 1 + 1 + 1 + 1 + 1, 0, none⟩) (by simp only; omega)).trans c5
      have HB1 := Aside0.mk hb1
      clear hb1 c0 c1 c2 c3 c4 c5
      go_wp2_with fail
      refine (HIS.out w1 HB1.out).mono ?_
      rintro e w2 ⟨rfl, hb2⟩
      have HB2 := Aside0.mk (HB1.out.trans (hb2.mono HB1.out.size))
      clear hb2
      have HCL := slices_Clone_int_int.calls A c (nums x) (nums x) w2 (HNX.out.symm ▸ C_below_ HKC.out HB2.out) (HNX.out.symm ▸ HCC.out) HCF.out
      rw [HNX.out] at HCL
      have HCL2 := Aside0.mk HCL
      clear HCL d3 d4 d5
      go_wp2_with fail
      refine HCL2.out.mono ?_
      rintro e w3 ⟨v0, rfl, hr3, hb3⟩
      obtain ⟨A9, c9, e9⟩ := Kd.R_slice hr3
      rw [HNX.out] at e9
      subst e9
      have hsw2 := HB2.out.size
      have k4 : w3.cell? ⟨w.heap.size + 1 + 1 + 1 + 1, 0, none⟩ = some (.slice none l4 cc4) := (hb3.cell (p := ⟨w.heap.size + 1 + 1 + 1 + 1, 0, none⟩) (by simp only; omega)).trans ((HB2.out.cell (p := ⟨w.heap.size + 1 + 1 + 1 + 1, 0, none⟩) (by simp only; omega)).trans H4.out)
      have k5 : w3.cell? ⟨w.heap.size + 1 + 1 + 1 + 1 + 1, 0, none⟩ = some (.int .i64 s2) := (hb3.cell (p := ⟨w.heap.size + 1 + 1 + 1 + 1 + 1, 0, none⟩) (by simp only; omega)).trans ((HB2.out.cell (p := ⟨w.heap.size + 1 + 1 + 1 + 1 + 1, 0, none⟩) (by simp only; omega)).trans H5.out)
      have z4 : w3.frozen? ⟨w.heap.size + 1 + 1 + 1 + 1, 0, none⟩ = false := (hb3.frozen (p := ⟨w.heap.size + 1 + 1 + 1 + 1, 0, none⟩) (by simp only; omega)).trans ((HB2.out.frozen (p := ⟨w.heap.size + 1 + 1 + 1 + 1, 0, none⟩) (by simp only; omega)).trans HBS.out.f4)
      have z5 : w3.frozen? ⟨w.heap.size + 1 + 1 + 1 + 1 + 1, 0, none⟩ = false := (hb3.frozen (p := ⟨w.heap.size + 1 + 1 + 1 + 1 + 1, 0, none⟩) (by simp only; omega)).trans ((HB2.out.frozen (p := ⟨w.heap.size + 1 + 1 + 1 + 1 + 1, 0, none⟩) (by simp only; omega)).trans HBS.out.f5)
      have HR3 := Aside0.mk hr3
      have HB3 := Aside0.mk hb3
      clear hr3 hb3
      go_wp2
      go_ret
      have hr := HR3.out
      rw [← HNX.out] at hr ⊢
      have hput := HBS.out.put w n Aa ca a Ab cb b gis lbis pr p HB2.out HB3.out hr HX1.out HSZ.out HE.out
      rw [HCX.out] at hput
      exact ⟨rfl, hput⟩
    | false =>
      have HE : Aside0 (bstep pr p (bfold pr p pre) x = bfold pr p pre) := ⟨by unfold bstep; rw [if_neg (fun h => by have := HPX.out; rw [h.2] at this; cases this)]⟩
      go_enter Try.func53, Try.ntmps53
      go_wp2_with fail
      refine HPR.out.mono ?_
      rintro e w1 ⟨rfl, hb1⟩
      have d3 : w1.cell? ⟨w.heap.size + 1 + 1 + 1, 0, none⟩ = some (.func (.func gis) #[] lbis) := (hb1.cell (p := ⟨w.heap.size + 1 + 1 + 1, 0, none⟩) (by simp only; omega)).trans c3
      have d4 : w1.cell? ⟨w.heap.size + 1 + 1 + 1 + 1, 0, none⟩ = some (.slice none l4 cc4) := (hb1.cell (p := ⟨w.heap.size + 1 + 1 + 1 + 1, 0, none⟩) (by simp only; omega)).trans c4
      have d5 : w1.cell? ⟨w.heap.size + 1 + 1 + 1 + 1 + 1, 0, none⟩ = some (.int .i64 s2) := (hb1.cell (p := ⟨w.heap.size + 1 + 1 + 1 + 1 + 1, 0, none⟩) (by simp only; omega)).trans c5
      have HB1 := Aside0.mk hb1
      clear hb1 c0 c1 c2 c3 c4 c5
      go_wp2_with fail
      refine (HIS.out w1 HB1.out).mono ?_
      rintro e w2 ⟨rfl, hb2⟩
      have HB2 := Aside0.mk (HB1.out.trans (hb2.mono HB1.out.size))
      clear hb2
      go_wp2
      go_ret
      exact ⟨rfl, HBS.out.same w n Aa ca a Ab cb b gis lbis pr p HB2.out HE.out⟩
  | some y =>
    rw [hs1] at HN4
    obtain ⟨ad4, hA4⟩ : ∃ ad4, A4 = some ad4 := by have := HN4.out; cases A4 with
      | none => cases this
      | some ad4 => exact ⟨ad4, rfl⟩
    subst hA4
    have HS1 := Aside0.mk (show (bfold pr p pre).1 ≠ none by rw [hs1]; simp)
    clear hs1 HN4
    by_cases hlt : cx < s2
    · have q1 : decide (cx < s2) = true := decide_eq_true hlt
      have HLT := Aside0.mk hlt
      clear hlt
      cases px with
      | true =>
        have H4 := Aside0.mk c4
        have H5 := Aside0.mk c5
        have HE : Aside0 (bstep pr p (bfold pr p pre) x = (some x, pr x)) := ⟨by unfold bstep; rw [if_pos ⟨.inr (by rw [HCX.out, HS2.out]; exact HLT.out), HPX.out⟩]⟩
        go_enter Try.func53, Try.ntmps53
        go_wp2_with fail
        refine HPR.out.mono ?_
        rintro e w1 ⟨rfl, hb1⟩
        have d3 : w1.cell? ⟨w.heap.size + 1 + 1 + 1, 0, none⟩ = some (.func (.func gis) #[] lbis) := (hb1.cell (p := ⟨w.heap.size + 1 + 1 + 1, 0, none⟩) (by simp only; omega)).trans c3
        have d4 : w1.cell? ⟨w.heap.size + 1 + 1 + 1 + 1, 0, none⟩ = some (.slice (some ad4) l4 cc4) := (hb1.cell (p := ⟨w.heap.size + 1 + 1 + 1 + 1, 0, none⟩) (by simp only; omega)).trans c4
        have d5 : w1.cell? ⟨w.heap.size + 1 + 1 + 1 + 1 + 1, 0, none⟩ = some (.int .i64 s2) := (hb1.cell (p := ⟨w.heap.size + 1 + 1 + 1 + 1 + 1, 0, none⟩) (by simp only; omega)).trans c5
        have HB1 := Aside0.mk hb1
        clear hb1 c0 c1 c2 c3 c4 c5
        go_wp2_with fail
        refine (HIS.out w1 HB1.out).mono ?_
        rintro e w2 ⟨rfl, hb2⟩
        have HB2 := Aside0.mk (HB1.out.trans (hb2.mono HB1.out.size))
        clear hb2
        have HCL := slices_Clone_int_int.calls A c (nums x) (nums x) w2 (HNX.out.symm ▸ C_below_ HKC.out HB2.out) (HNX.out.symm ▸ HCC.out) HCF.out
        rw [HNX.out] at HCL
        have HCL2 := Aside0.mk HCL
        clear HCL d3 d4 d5
        go_wp2_with fail
        refine HCL2.out.mono ?_
        rintro e w3 ⟨v0, rfl, hr3, hb3⟩
        obtain ⟨A9, c9, e9⟩ := Kd.R_slice hr3
        rw [HNX.out] at e9
        subst e9
        have hsw2 := HB2.out.size
        have k4 : w3.cell? ⟨w.heap.size + 1 + 1 + 1 + 1, 0, none⟩ = some (.slice (some ad4) l4 cc4) := (hb3.cell (p := ⟨w.heap.size + 1 + 1 + 1 + 1, 0, none⟩) (by simp only; omega)).trans ((HB2.out.cell (p := ⟨w.heap.size + 1 + 1 + 1 + 1, 0, none⟩) (by simp only; omega)).trans H4.out)
        have k5 : w3.cell? ⟨w.heap.size + 1 + 1 + 1 + 1 + 1, 0, none⟩ = some (.int .i64 s2) := (hb3.cell (p := ⟨w.heap.size + 1 + 1 + 1 + 1 + 1, 0, none⟩) (by simp only; omega)).trans ((HB2.out.cell (p := ⟨w.heap.size + 1 + 1 + 1 + 1 + 1, 0, none⟩) (by simp only; omega)).trans H5.out)
        have z4 : w3.frozen? ⟨w.heap.size + 1 + 1 + 1 + 1, 0, none⟩ = false := (hb3.frozen (p := ⟨w.heap.size + 1 + 1 + 1 + 1, 0, none⟩) (by simp only; omega)).trans ((HB2.out.frozen (p := ⟨w.heap.size + 1 + 1 + 1 + 1, 0, none⟩) (by simp only; omega)).trans HBS.out.f4)
        have z5 : w3.frozen? ⟨w.heap.size + 1 + 1 + 1 + 1 + 1, 0, none⟩ = false := (hb3.frozen (p := ⟨w.heap.size + 1 + 1 + 1 + 1 + 1, 0, none⟩) (by simp only; omega)).trans ((HB2.out.frozen (p := ⟨w.heap.size + 1 + 1 + 1 + 1 + 1, 0, none⟩) (by simp only; omega)).trans HBS.out.f5)
        have HR3 := Aside0.mk hr3
        have HB3 := Aside0.mk hb3
        clear hr3 hb3
        go_wp2
        go_ret
        have hr := HR3.out
        rw [← HNX.out] at hr ⊢
        have hput := HBS.out.put w n Aa ca a Ab cb b gis lbis pr p HB2.out HB3.out hr HX1.out HSZ.out HE.out
        rw [HCX.out] at hput
        exact ⟨rfl, hput⟩
      | false =>
        have HE : Aside0 (bstep pr p (bfold pr p pre) x = bfold pr p pre) := ⟨by unfold bstep; rw [if_neg (fun h => by have := HPX.out; rw [h.2] at this; cases this)]⟩
        go_enter Try.func53, Try.ntmps53
        go_wp2_with fail
        refine HPR.out.mono ?_
        rintro e w1 ⟨rfl, hb1⟩
        have d3 : w1.cell? ⟨w.heap.size + 1 + 1 + 1, 0, none⟩ = some (.func (.func gis) #[] lbis) := (hb1.cell (p := ⟨w.heap.size + 1 + 1 + 1, 0, none⟩) (by simp only; omega)).trans c3
        have d4 : w1.cell? ⟨w.heap.size + 1 + 1 + 1 + 1, 0, none⟩ = some (.slice (some ad4) l4 cc4) := (hb1.cell (p := ⟨w.heap.size + 1 + 1 + 1 + 1, 0, none⟩) (by simp only; omega)).trans c4
        have d5 : w1.cell? ⟨w.heap.size + 1 + 1 + 1 + 1 + 1, 0, none⟩ = some (.int .i64 s2) := (hb1.cell (p := ⟨w.heap.size + 1 + 1 + 1 + 1 + 1, 0, none⟩) (by simp only; omega)).trans c5
        have HB1 := Aside0.mk hb1
        clear hb1 c0 c1 c2 c3 c4 c5
        go_wp2_with fail
        refine (HIS.out w1 HB1.out).mono ?_
        rintro e w2 ⟨rfl, hb2⟩
        have HB2 := Aside0.mk (HB1.out.trans (hb2.mono HB1.out.size))
        clear hb2
        go_wp2
        go_ret
        exact ⟨rfl, HBS.out.same w n Aa ca a Ab cb b gis lbis pr p HB2.out HE.out⟩
    · have q1 : decide (cx < s2) = false := decide_eq_false hlt
      have HE : Aside0 (bstep pr p (bfold pr p pre) x = bfold pr p pre) := ⟨by unfold bstep; rw [if_neg (fun h => by
            rcases h.1 with h1 | h1
            · exact HS1.out h1
            · rw [HCX.out, HS2.out] at h1; exact hlt h1)]⟩
      clear hlt
      go_enter Try.func53, Try.ntmps53
      go_wp2_with fail
      refine HPR.out.mono ?_
      rintro e w1 ⟨rfl, hb1⟩
      have d3 : w1.cell? ⟨w.heap.size + 1 + 1 + 1, 0, none⟩ = some (.func (.func gis) #[] lbis) := (hb1.cell (p := ⟨w.heap.size + 1 + 1 + 1, 0, none⟩) (by simp only; omega)).trans c3
      have d4 : w1.cell? ⟨w.heap.size + 1 + 1 + 1 + 1, 0, none⟩ = some (.slice (some ad4) l4 cc4) := (hb1.cell (p := ⟨w.heap.size + 1 + 1 + 1 + 1, 0, none⟩) (by simp only; omega)).trans c4
      have d5 : w1.cell? ⟨w.heap.size + 1 + 1 + 1 + 1 + 1, 0, none⟩ = some (.int .i64 s2) := (hb1.cell (p := ⟨w.heap.size + 1 + 1 + 1 + 1 + 1, 0, none⟩) (by simp only; omega)).trans c5
      have HB1 := Aside0.mk hb1
      clear hb1 c0 c1 c2 c3 c4 c5
      go_wp2
      go_ret
      exact ⟨rfl, HBS.out.same w n Aa ca a Ab cb b gis lbis pr p HB1.out HE.out⟩
-- ways end
end

end Go.Proofs.Ytdnjbjcfbdclfaa.P
namespace Go.Proofs.Ytdnjbjcfbdclfaa.P
open Go.RowKit Go.Proofs.YtdnjbjcfbdclfaaW.PrintWords Go.Proofs.YtdnjbjcfbdclfaaW.PrintLast Go.Proofs.YtdnjbjcfbdclfaaW.PrintMore
attribute [local go_sem] max2_int min2_int max_two min_two max_three min_three max_four min_four   -- for this text's walks alone
set_option linter.unusedVariables false
set_option linter.unusedSimpArgs false

attribute [local go_sem] Oper.semAt_some
/-! what a body may write: KpC -/
/-- what a body may write is X (a block, and what lies there); all other cells stay -/
def KpC (X : Nat → Obj → Prop) (W W' : World) : Prop := W.heap.size ≤ W'.heap.size ∧ ∀ b o, ¬ X b o → W.heap[b]? = some o → o.isCells = true → W'.heap[b]? = some o
theorem KpC.refl (X : Nat → Obj → Prop) (W : World) : KpC X W W := ⟨Nat.le_refl _, fun _ _ _ h _ => h⟩
theorem KpC.trans {X : Nat → Obj → Prop} {A B C : World} (h : KpC X A B) (k : KpC X B C) : KpC X A C := ⟨Nat.le_trans h.1 k.1, fun b o hx ho hc => k.2 b o hx (h.2 b o hx ho hc) hc⟩
theorem KpC.of_grown {X : Nat → Obj → Prop} {A B : World} (h : A.grownBy B none) : KpC X A B := ⟨h.size, fun b o _ ho _ => (h.block b (Array.getElem?_eq_some_iff.1 ho).1 (by simp)).trans ho⟩
theorem KpC.putObj {X : Nat → Obj → Prop} (W : World) {l : Nat} {o o' : Obj} (hl : W.heap[l]? = some o) (hc : o.isCells = false) : KpC X W (W.putObj l o') :=
  ⟨by simp [World.putObj], fun b p _ hp hpc => by
    have hne : b ≠ l := fun e => by subst e; rw [hl] at hp; cases hp; rw [hc] at hpc; cases hpc
    exact (World.putObj_heap_other hne).trans hp⟩
theorem isCells_of {W : World} {b i : Nat} {v : Value} {o : Obj} (hc : W.cell? ⟨b, i, none⟩ = some v) (ho : W.heap[b]? = some o) : o.isCells = true := by
  unfold World.cell? at hc
  rw [ho] at hc
  cases o <;> simp_all [Obj.isCells]
theorem KpC.cell {X : Nat → Obj → Prop} {A B : World} (h : KpC X A B) {b i : Nat} {v : Value} (hx : ∀ o, A.heap[b]? = some o → ¬ X b o) (hc : A.cell? ⟨b, i, none⟩ = some v) : B.cell? ⟨b, i, none⟩ = some v := by
  obtain ⟨o, ho⟩ : ∃ o, A.heap[b]? = some o := ⟨_, Array.getElem?_eq_getElem (World.block_lt_of_cell? A _ hc)⟩
  have h2 := h.2 b o (hx o ho) ho (isCells_of hc ho)
  unfold World.cell? at hc ⊢
  rw [ho] at hc; rw [h2]; exact hc
theorem two_cells {W : World} {b : Nat} {u v : Value} {t : TypeId} (h : W.heap[b]? = some (.cells #[u, v] t)) : W.cell? ⟨b, 0, none⟩ = some u ∧ W.cell? ⟨b, 1, none⟩ = some v := by
  constructor <;> (unfold World.cell?; simp only [h]; simp)
theorem new_two (w : World) (u v : Value) (t : TypeId) : (w.alloc (.cells #[u, v] t)).cell? ⟨w.heap.size, 0, none⟩ = some u ∧ (w.alloc (.cells #[u, v] t)).cell? ⟨w.heap.size, 1, none⟩ = some v := by
  have h := World.alloc_heap_new w (.cells #[u, v] t)
  constructor <;> (unfold World.cell?; simp only [h]; simp)
def intO : Value → Int | .int _ q => q | _ => 0
theorem intO_less {n k : Nat} {z : Int} (hz : z = (k : Int) + 1) (hk : k < n) : n - (intO (.int .i64 z)).toNat < n - (intO (.int .i64 (k : Int))).toNat := by
  subst hz; simp only [intO]; omega
def GrowSt (A B : World) : Prop := A.grownBy B none

end Go.Proofs.Ytdnjbjcfbdclfaa.P
namespace Go.Proofs.Ytdnjbjcfbdclfaa.P
open Go.RowKit Go.Proofs.YtdnjbjcfbdclfaaW.PrintWords Go.Proofs.YtdnjbjcfbdclfaaW.PrintLast Go.Proofs.YtdnjbjcfbdclfaaW.PrintMore
attribute [local go_sem] max2_int min2_int max_two min_two max_three min_three max_four min_four   -- for this text's walks alone
set_option linter.unusedVariables false
set_option linter.unusedSimpArgs false

attribute [local go_sem] Oper.semAt_some
/-! voices.all: all voicings with the tones rising, in order, as an iterator that writes blocks of its own between the rounds -/
def alN (n : Nat) : Nat → Nat → List Nat → List (List Nat)
  | 0, _, cur => [cur]
  | r + 1, f, cur => (List.range (n - f)).flatMap fun i => alN n r (f + i) (cur ++ [f + i])
def alTo (n r f : Nat) (cur : List Nat) (m : Nat) : List (List Nat) := (List.range m).flatMap fun i => alN n r (f + i) (cur ++ [f + i])
theorem alTo_succ (n r f : Nat) (cur : List Nat) (m : Nat) : alTo n r f cur (m + 1) = alTo n r f cur m ++ alN n r (f + m) (cur ++ [f + m]) := by
  unfold alTo; rw [List.range_succ]; simp
section
variable (P : World → Nat → Prop) (XB : Nat → Prop) (S bk bn k n l : Nat)
def alGrow : Value := .func (.func 58) #[] #[.pointer (some ⟨S + 1, 0, none⟩), .pointer (some ⟨bk, 0, none⟩), .pointer (some ⟨S, 0, none⟩), .pointer (some ⟨bn, 0, none⟩), .pointer (some ⟨S + 1 + 1, 0, none⟩)]
/-- the iterator's boxes -/
structure AlSt (cur : List Nat) (W : World) : Prop where
  ck : W.cell? ⟨bk, 0, none⟩ = some (.int .i64 (k : Int))
  cn : W.cell? ⟨bn, 0, none⟩ = some (.int .i64 (n : Int))
  cy : W.cell? ⟨S, 0, none⟩ = some (.func (.yield l) #[] #[])
  cvv : ∃ A c, W.cell? ⟨S + 1, 0, none⟩ = some (.slice A (nums cur).length c) ∧ Kd.R (Kd.int .i64) 3 W (S + 3) (fun i => ¬ P W i) (.slice A (nums cur).length c) (nums cur)
  fv : W.frozen? ⟨S + 1, 0, none⟩ = false
  cg : W.cell? ⟨S + 1 + 1, 0, none⟩ = some (alGrow S bk bn)
  nb : ∀ i, S ≤ i → i < S + 3 → ¬ P W i
/-- what the iterator does between two rounds -/
def AlSteps (A B : World) : Prop := Fr (P A) A B ∧ KeepsOthers A B
/-- what a round leaves -/
def AlKp (vals : Array Value) (A B : World) : Prop := KpC (fun b _ => XB b) A B ∧ ∀ i, P B i → P A i ∨ A.heap.size ≤ i ∨ ∃ v, v ∈ vals.toList ∧ v.ownBlock = some i
/-- what is known of the blocks that the rounds go by -/
def AlPI (A : World) : Prop := (∀ i, P A i → i < A.heap.size) ∧ ∀ B, Fr (P A) A B → ∀ i, P B i ↔ P A i
def AlEnc (x : List Nat) (W : World) (vals : Array Value) : Prop := ∃ (ad : Addr) (c base : Nat), vals = #[.slice (some ad) (nums x).length c] ∧ Kd.R (Kd.int .i64) 3 W base (fun i => ¬ P W i) (.slice (some ad) (nums x).length c) (nums x) ∧ ∀ W0 : Nat, W0 ≤ base → True
/-- a round, as the iterator takes it -/
def AlRound (xs : List (List Nat)) (J : List (List Nat) → World → Prop) : Prop := ∀ pre x rest W1 vals, xs = pre ++ x :: rest → J pre W1 → AlEnc P x W1 vals → YieldAt Fence.wide 1 Try.prog l vals W1 fun e W' => e = .returned (.bool true) ∧ J (pre ++ [x]) W' ∧ AlKp P XB vals W1 W'
def AlPost (J : List (List Nat) → World → Prop) (cur : List Nat) (L : List (List Nat)) (e : Ending) (w' : World) : Prop := e = .returned (.bool true) ∧ J L w' ∧ AlSt P S bk bn k n l cur w'
end
section
variable {P : World → Nat → Prop} {XB : Nat → Prop} {S bk bn k n l : Nat}
/-- over a step that leaves the cells of what the rounds go by, and of the iterator's own boxes -/
theorem AlSt.frame {cur : List Nat} {W W' : World} (h : AlSt P S bk bn k n l cur W) (hf : ∀ i o, i = bk ∨ i = bn ∨ (S ≤ i ∧ i < W.heap.size) → W.heap[i]? = some o → o.isCells = true → W'.heap[i]? = some o) (hP : ∀ i, P W' i → (S ≤ i ∧ i < S + 3) ∨ (∃ v, W.cell? ⟨S + 1, 0, none⟩ = some v ∧ v.ownBlock = some i) → P W i) : AlSt P S bk bn k n l cur W' := by
  obtain ⟨h1, h2, h3, ⟨A, c, h4, h5⟩, h6, h7, h8⟩ := h
  have lt : ∀ {a : Addr} {v : Value}, W.cell? a = some v → a.block < W.heap.size := fun h => World.block_lt_of_cell? W _ h
  have l3 := lt h3
  have l4 := lt h4
  have l7 := lt h7
  simp only at l3 l4 l7
  have hh : ∀ b v, (b = bk ∨ b = bn ∨ (S ≤ b ∧ b < W.heap.size)) → W.cell? ⟨b, 0, none⟩ = some v → W'.heap[b]? = W.heap[b]? := fun b v hb hv => by
    obtain ⟨o, ho⟩ : ∃ o, W.heap[b]? = some o := ⟨_, Array.getElem?_eq_getElem (lt hv)⟩
    exact (hf b o hb ho (isCells_of hv ho)).trans ho.symm
  have hc : ∀ b v, (b = bk ∨ b = bn ∨ (S ≤ b ∧ b < W.heap.size)) → W.cell? ⟨b, 0, none⟩ = some v → W'.cell? ⟨b, 0, none⟩ = some v := fun b v hb hv => by
    have e := hh b v hb hv
    unfold World.cell? at hv ⊢
    simp only [e]; exact hv
  have hz : W'.frozen? ⟨S + 1, 0, none⟩ = W.frozen? ⟨S + 1, 0, none⟩ := by unfold World.frozen?; simp only [hh (S + 1) _ (.inr (.inr ⟨by omega, by omega⟩)) h4]
  refine ⟨hc _ _ (.inl rfl) h1, hc _ _ (.inr (.inl rfl)) h2, hc _ _ (.inr (.inr ⟨by omega, by omega⟩)) h3, ⟨A, c, hc _ _ (.inr (.inr ⟨by omega, by omega⟩)) h4, ?_⟩, hz.trans h6, hc _ _ (.inr (.inr ⟨by omega, by omega⟩)) h7, fun i h9 h10 h11 => h8 i h9 h10 (hP i h11 (.inl ⟨h9, h10⟩))⟩
  have hown := Kd.own_of_R h5
  have hbase := Kd.R_base h5
  have hlt := Kd.R_lt h5
  have h10 := Kd.R_move (w1 := W') (Kd.R_tight rfl h5) (fun i hi => by
    obtain ⟨cells, hcl⟩ := own_typed hown i hi.symm
    rw [hcl]
    exact hf i _ (.inr (.inr ⟨by have := hbase i hi.symm; omega, hlt i hi.symm⟩)) hcl rfl)
  refine Kd.R_mono h10 (fun i hi hp => ?_)
  exact h5.1 i hi.symm (hP i hp (.inr ⟨_, h4, hi.symm⟩))
end
section
variable {P : World → Nat → Prop} {XB : Nat → Prop} {S bk bn k n l : Nat}
set_option maxHeartbeats 4000000 in
set_option maxRecDepth 100000 in
theorem al_end {J : List (List Nat) → World → Prop} {xs : List (List Nat)} (hR : AlRound P XB l xs J) (hJs : ∀ s A B, J s A → AlSteps P A B → J s B) (hPI : ∀ s A, J s A → AlPI P A) (hXB : ∀ i, XB i → i < S ∧ i ≠ bk ∧ i ≠ bn) (hk1 : 1 ≤ k) (hk : k ≤ 100) (fr : Int) (cur : List Nat) (pre rest : List (List Nat)) (W : World) (hc : cur.length = k) (hx : xs = pre ++ cur :: rest) (hJ : J pre W) (hL : AlSt P S bk bn k n l cur W) :
    CallsIn Fence.wide 2 Try.prog 58 #[.int .i64 fr, .pointer (some ⟨S + 1, 0, none⟩), .pointer (some ⟨bk, 0, none⟩), .pointer (some ⟨S, 0, none⟩), .pointer (some ⟨bn, 0, none⟩), .pointer (some ⟨S + 1 + 1, 0, none⟩)] W (AlPost P S bk bn k n l J cur (pre ++ [cur])) := by
  have HL := Aside0.mk hL
  obtain ⟨A, c, cl, hRr⟩ := hL.cvv
  have ck := hL.ck
  have cy := hL.cy
  have hlen : (nums cur).length = k := by rw [nums_length, hc]
  have hrd := Kd.R_reads' hRr
  have HRR := Aside0.mk (hlen ▸ hRr)
  have HRD := Aside0.mk hrd
  have HLEN := Aside0.mk hlen
  rw [hlen] at cl
  have heq : ((k : Int) == (k : Int)) = true := beq_self_eq_true _
  clear hL hRr hrd hlen
  refine callsIn_of_wp Try.func58 rfl trivial ?_ rfl
  simp only [Try.ntmps58, List.size_toArray, List.length_cons, List.length_nil, Nat.reduceAdd, Nat.reduceSub, Array.replicate_succ, Array.replicate_zero, List.push_toArray, List.append_toArray, List.nil_append, List.cons_append]
  gi_wp2
  have hcf := clone_f cur (by omega)
  have HCLN := Aside0.mk (show ∀ V, Below W.heap.size W V → Calls Try.prog 18 #[.slice A k c] V fun e w' => ∃ (ad : Addr) (c2 : Nat), e = .returned (.slice (some ad) k c2) ∧ Kd.R (Kd.int .i64) 3 w' W.heap.size (fun _ => True) (.slice (some ad) k c2) (nums cur) ∧ Below W.heap.size W w' from fun V hV => by
    have h := slices_Clone_int_int.calls A c (nums cur) (nums cur) V (Kd.C_below HRD.out.2.2 hV) HRD.out.2.1 hcf
    rw [HLEN.out] at h
    refine h.mono ?_
    rintro e w' ⟨v, rfl, hr, hb⟩
    obtain ⟨A2, c2, rfl⟩ := Kd.R_slice hr
    obtain ⟨ad, e, _⟩ := Kd.at_int (Kd.R_reads' hr).2.2 0 (by omega) (by rw [HLEN.out]; omega)
    rw [HLEN.out] at hr ⊢
    subst e
    exact ⟨ad, c2, rfl, Kd.R_lower hr hV.size, below_step hV hb⟩)
  have HYD := Aside0.mk (show ∀ w2 ad c2, Kd.R (Kd.int .i64) 3 w2 W.heap.size (fun _ => True) (.slice (some ad) k c2) (nums cur) → Below W.heap.size W w2 → YieldAt Fence.wide 1 Try.prog l #[.slice (some ad) k c2] w2 fun e W' => e = .returned (.bool true) ∧ J (pre ++ [cur]) W' ∧ AlSt P S bk bn k n l cur W' from fun w2 ad c2 hr hb => by
    have hpi := hPI _ _ hJ
    have hfr : Fr (P W) W w2 := Fr.of_below hb (fun i hi => hpi.1 i hi)
    have hJ2 := hJs _ _ _ hJ ⟨hfr, KeepsOthers.of_grownBy (grown_of_below hb none) (fun j o e => by cases e)⟩
    have henc : AlEnc P cur w2 #[.slice (some ad) k c2] := ⟨ad, c2, W.heap.size, by rw [HLEN.out], by
      rw [HLEN.out]
      exact Kd.R_mono (Kd.R_bound hr) (fun i hi hp => by have := hpi.1 i ((hpi.2 _ hfr i).1 hp); have := hi.2.1; omega), fun _ _ => trivial⟩
    obtain ⟨fn, tmps, assign, body, hy, hRn⟩ := hR pre cur rest w2 _ hx hJ2 henc
    refine ⟨fn, tmps, assign, body, hy, hRn.mono ?_⟩
    rintro e w3 ⟨h1, h2, h3, h4⟩
    refine ⟨h1, h2, ?_⟩
    have hL2 : AlSt P S bk bn k n l cur w2 := HL.out.frame (fun i o hi ho _ => (hb.block i (Array.getElem?_eq_some_iff.1 ho).1).trans ho) (fun i hp _ => (hpi.2 _ hfr i).1 hp)
    refine hL2.frame (fun i o hi ho hc => h3.2 i o (fun hxb => ?_) ho hc) (fun i hp h5 => ?_)
    · have := hXB i hxb
      rcases hi with h | h | h
      · exact this.2.1 h
      · exact this.2.2 h
      · omega
    · have hiW : i < W.heap.size := by
        rcases h5 with h5 | ⟨v, h5, h6⟩
        · have := World.block_lt_of_cell? W _ HL.out.cg; simp only at this; omega
        · have h7 := (hb.cell (p := ⟨S + 1, 0, none⟩) (World.block_lt_of_cell? W _ cl)).trans cl
          rw [h5] at h7
          injection h7 with h7
          subst h7
          exact Kd.R_lt HRR.out i h6
      rcases h4 i hp with h7 | h7 | ⟨v, hv, h7⟩
      · exact h7
      · have := hb.size; omega
      · have hv2 : v = .slice (some ad) k c2 := by simpa using hv
        subst hv2
        have := Kd.R_base hr i h7
        omega)
  clear hcf
  have HBW := Aside0.mk (Below.refl W.heap.size W)
  gi_region_with (first
    | (refine ⟨trivial, ?_⟩; gi_at_call 18; refine (callsIn_wide.2 (HCLN.out _ ?hb)).mono ?_; (case hb => (repeat (first | exact Below.refl _ _ | apply below_drew1 | apply pw_below_drewN))); rintro e w2 ⟨ad, c2, rfl, hr2, hb2⟩; obtain ⟨fn, tmps, assign, body, hy, hRn⟩ := HYD.out w2 ad c2 hr2 hb2; have HRN := Aside0.mk hRn; have cy2 := (hb2.cell (p := ⟨S, 0, none⟩) (World.block_lt_of_cell? W _ HL.out.cy)).trans HL.out.cy; clear hr2 hb2 hRn)
    | (refine HRN.out.mono ?_; rintro e w3 ⟨rfl, hj3, hl3⟩))
  all_goals gi_wp2
  all_goals (refine bodyPost_ret (results_tmp rfl _ _ _) rfl ?_)
  all_goals exact ⟨rfl, by assumption, by assumption⟩
end

end Go.Proofs.Ytdnjbjcfbdclfaa.P
namespace Go.Proofs.Ytdnjbjcfbdclfaa.P
open Go.RowKit Go.Proofs.YtdnjbjcfbdclfaaW.PrintWords Go.Proofs.YtdnjbjcfbdclfaaW.PrintLast Go.Proofs.YtdnjbjcfbdclfaaW.PrintMore
attribute [local go_sem] max2_int min2_int max_two min_two max_three min_three max_four min_four   -- for this text's walks alone
set_option linter.unusedVariables false
set_option linter.unusedSimpArgs false

attribute [local go_sem] Oper.semAt_some
/-! voices.all: the walk over the next tone -/
theorem alTo_split (n r f : Nat) (cur : List Nat) {i m : Nat} (h : i < m) : ∃ t, alTo n r f cur m = alTo n r f cur i ++ alN n r (f + i) (cur ++ [f + i]) ++ t := by
  obtain ⟨d, rfl⟩ : ∃ d, m = i + 1 + d := ⟨m - (i + 1), by omega⟩
  induction d with
  | zero => exact ⟨[], by rw [List.append_nil]; exact alTo_succ n r f cur i⟩
  | succ d ih =>
    obtain ⟨t, ht⟩ := ih (by omega)
    exact ⟨t ++ alN n r (f + (i + 1 + d)) (cur ++ [f + (i + 1 + d)]), by rw [show i + 1 + (d + 1) = (i + 1 + d) + 1 from rfl, alTo_succ, ht]; simp⟩
section
variable {P : World → Nat → Prop} {XB : Nat → Prop} {S bk bn k n l : Nat}
theorem AlSt.app {cur : List Nat} {W W1 : World} (hbk : bk < S) (hbn : bn < S) (hL : AlSt P S bk bn k n l cur W) (hpi : AlPI P W) {A : Option Addr} {c : Nat} (hcl : W.cell? ⟨S + 1, 0, none⟩ = some (.slice A (nums cur).length c)) (hR : Kd.R (Kd.int .i64) 3 W (S + 3) (fun i => ¬ P W i) (.slice A (nums cur).length c) (nums cur)) (x : Nat) {v1 : Value}
    (ho : W1.ownsRow (S + 3) 3 1 v1 ((nums cur).length + 1) ((nums cur).map (Value.int .i64) ++ [.int .i64 (x : Int)])) (hg : (W.alloc (.cells #[.int .i64 (x : Int)] 3)).grownBy W1 (Value.slice A (nums cur).length c).ownBlock) (hat : v1.ownBlock = (Value.slice A (nums cur).length c).ownBlock ∨ v1.ownBlock = some (W.alloc (.cells #[.int .i64 (x : Int)] 3)).heap.size) :
    W1.cell? ⟨S + 1, 0, none⟩ = some (.slice A (nums cur).length c) ∧ W1.frozen? ⟨S + 1, 0, none⟩ = false ∧ AlSteps P W (W1.setCell ⟨S + 1, 0, none⟩ v1) ∧ AlSt P S bk bn k n l (cur ++ [x]) (W1.setCell ⟨S + 1, 0, none⟩ v1) := by
  have hsz : S + 3 ≤ W.heap.size := by have := World.block_lt_of_cell? W _ hL.cg; simp only at this; omega
  have hb3 := Kd.R_base hR
  have hlt := Kd.R_lt hR
  have ha : Fr (fun i => i < W.heap.size) W (W.alloc (.cells #[.int .i64 (x : Int)] 3)) := Fr.alloc _ _ (fun _ h => h)
  have hfr : Fr (fun i => i < W.heap.size ∧ (Value.slice A (nums cur).length c).ownBlock ≠ some i) W W1 := (ha.mono (fun i hi => hi.1)).trans (Fr.grown hg (fun i hi => by simp only [World.size_alloc]; omega) (fun i hi hp => hp.2 hi))
  have hne : ∀ b, b < S + 3 → (Value.slice A (nums cur).length c).ownBlock ≠ some b := fun b hb e => by have := hb3 b e; omega
  have hbx : ∀ b, b < S + 3 → W1.cell? ⟨b, 0, none⟩ = W.cell? ⟨b, 0, none⟩ := fun b hb => hfr.cell ⟨by omega, hne b hb⟩ 0
  have f1 : W1.frozen? ⟨S + 1, 0, none⟩ = false := (hfr.frozen ⟨by omega, hne _ (by omega)⟩ 0).trans hL.fv
  have c1 := (hbx (S + 1) (by omega)).trans hcl
  have hnP : ¬ P W (S + 1) := hL.nb _ (by omega) (by omega)
  have hFP : Fr (P W) W (W1.setCell ⟨S + 1, 0, none⟩ v1) := (hfr.mono (fun i hi => ⟨hpi.1 i hi, fun e => hR.1 i e hi⟩)).trans (Fr.setCell _ _ hnP)
  have hKO : KeepsOthers W (W1.setCell ⟨S + 1, 0, none⟩ v1) := by
    refine ((KeepsOthers.alloc _ _).trans (KeepsOthers.of_grownBy hg (fun j o e ho2 => ?_))).trans (KeepsOthers.setCell _ _ _)
    obtain ⟨cells, hcl2⟩ := own_typed (Kd.own_of_R hR) j e
    have h2 := (ha.block j (hlt j e)).trans hcl2
    rw [h2] at ho2
    cases ho2
    rfl
  refine ⟨c1, f1, ⟨hFP, hKO⟩, ?_⟩
  have hiff := hpi.2 _ hFP
  have hb2 : ∀ b, b ≠ S + 1 → (W1.setCell ⟨S + 1, 0, none⟩ v1).cell? ⟨b, 0, none⟩ = W1.cell? ⟨b, 0, none⟩ := fun b h => by unfold World.cell?; simp only [Below.heap_setCell W1 ⟨S + 1, 0, none⟩ v1 b h]
  have hown : v1.ownBlock ≠ some (S + 1) := fun e => by
    rcases hat with h | h
    · exact hne (S + 1) (by omega) (h.symm.trans e)
    · rw [h] at e; injection e with e; simp only [World.size_alloc] at e; omega
  obtain ⟨A1, cc1, e1⟩ := own_slice ho
  have hlen : (nums (cur ++ [x])).length = (nums cur).length + 1 := by rw [nums_snoc, List.length_append]; rfl
  refine ⟨(hb2 _ (by omega)).trans ((hbx _ (by omega)).trans hL.ck), (hb2 _ (by omega)).trans ((hbx _ (by omega)).trans hL.cn), (hb2 _ (by omega)).trans ((hbx _ (by omega)).trans hL.cy), ⟨A1, cc1, ?_, ?_⟩, by rw [World.frozen?_setCell]; exact f1, (hb2 _ (by omega)).trans ((hbx _ (by omega)).trans hL.cg), fun i h1 h2 hp => hL.nb i h1 h2 ((hiff i).1 hp)⟩
  · rw [hlen, ← e1]; exact World.cell?_setCell_same' _ _ _ (by rw [c1]; rfl)
  · rw [hlen, ← e1, nums_snoc]
    refine Kd.R_of_own (h1 := fun _ => rfl) ?_ ?_
    · have := own_move (w1 := W1.setCell ⟨S + 1, 0, none⟩ v1) ho (fun i hi => Below.heap_setCell _ _ _ _ (fun e => hown (by rw [hi, e])))
      simpa [encs] using this
    · intro i hi hp
      have hp2 := (hiff i).1 hp
      rcases hat with h | h
      · exact hR.1 i (h.symm.trans hi) hp2
      · have := hpi.1 i hp2
        rw [h] at hi; injection hi with hi; simp only [World.size_alloc] at hi; omega
theorem AlSt.pop {cur : List Nat} {W : World} (x : Nat) (hbk : bk < S) (hbn : bn < S) (hL : AlSt P S bk bn k n l (cur ++ [x]) W) (hpi : AlPI P W) {A : Option Addr} {c : Nat} (hcl : W.cell? ⟨S + 1, 0, none⟩ = some (.slice A ((nums cur).length + 1) c)) (hR : Kd.R (Kd.int .i64) 3 W (S + 3) (fun i => ¬ P W i) (.slice A ((nums cur).length + 1) c) (nums (cur ++ [x]))) :
    AlSteps P W (W.setCell ⟨S + 1, 0, none⟩ (.slice A (nums cur).length c)) ∧ AlSt P S bk bn k n l cur (W.setCell ⟨S + 1, 0, none⟩ (.slice A (nums cur).length c)) := by
  have hnP : ¬ P W (S + 1) := hL.nb _ (by omega) (by omega)
  have hFP : Fr (P W) W (W.setCell ⟨S + 1, 0, none⟩ (.slice A (nums cur).length c)) := Fr.setCell _ _ hnP
  have hiff := hpi.2 _ hFP
  have hb2 : ∀ b, b ≠ S + 1 → (W.setCell ⟨S + 1, 0, none⟩ (.slice A (nums cur).length c)).cell? ⟨b, 0, none⟩ = W.cell? ⟨b, 0, none⟩ := fun b h => by unfold World.cell?; simp only [Below.heap_setCell W ⟨S + 1, 0, none⟩ (.slice A (nums cur).length c) b h]
  refine ⟨⟨hFP, KeepsOthers.setCell _ _ _⟩, ⟨(hb2 _ (by omega)).trans hL.ck, (hb2 _ (by omega)).trans hL.cn, (hb2 _ (by omega)).trans hL.cy, ⟨A, c, World.cell?_setCell_same' _ _ _ (by rw [hcl]; rfl), ?_⟩, by rw [World.frozen?_setCell]; exact hL.fv, (hb2 _ (by omega)).trans hL.cg, fun i h1 h2 hp => hL.nb i h1 h2 ((hiff i).1 hp)⟩⟩
  have ht := Kd.R_take hR (m := (nums cur).length) (by rw [nums_snoc, List.length_append]; omega)
  rw [nums_snoc, List.take_left' rfl] at ht
  refine Kd.R_mono (Kd.R_far (ok := fun i => ¬ P W i ∧ i ≠ S + 1) (Kd.R_mono (Kd.R_bound ht) (fun i hi => ⟨hi.1, by have := hi.2.1; omega⟩)) (fun i hi => hi.2) _) (fun i hi hp => hi.1 ((hiff i).1 hp))
end

end Go.Proofs.Ytdnjbjcfbdclfaa.P
namespace Go.Proofs.Ytdnjbjcfbdclfaa.P
open Go.RowKit Go.Proofs.YtdnjbjcfbdclfaaW.PrintWords Go.Proofs.YtdnjbjcfbdclfaaW.PrintLast Go.Proofs.YtdnjbjcfbdclfaaW.PrintMore
attribute [local go_sem] max2_int min2_int max_two min_two max_three min_three max_four min_four   -- for this text's walks alone
set_option linter.unusedVariables false
set_option linter.unusedSimpArgs false

attribute [local go_sem] Oper.semAt_some
/-! boxes, and what a round leaves -/
/-- a box of one or two cells that may be written -/
structure BoxAt (W : World) (b : Nat) (cs : List Value) : Prop where
  cell : ∀ i v, cs[i]? = some v → W.cell? ⟨b, i, none⟩ = some v
  frozen : ∀ i, W.frozen? ⟨b, i, none⟩ = false
theorem BoxAt.new (w : World) (cs : List Value) (t : TypeId) : BoxAt (w.alloc (.cells cs.toArray t)) w.heap.size cs := by
  have h := World.alloc_heap_new w (.cells cs.toArray t)
  exact ⟨fun i v hv => by unfold World.cell?; simp only [h]; simpa using hv, fun i => by unfold World.frozen?; simp only [h]; simp⟩
theorem BoxAt.heap {W W' : World} {b : Nat} {cs : List Value} (h : BoxAt W b cs) (hh : W'.heap[b]? = W.heap[b]?) : BoxAt W' b cs :=
  ⟨fun i v hv => by have := h.cell i v hv; unfold World.cell? at this ⊢; simp only [hh]; exact this, fun i => by have := h.frozen i; unfold World.frozen? at this ⊢; simp only [hh]; exact this⟩
theorem BoxAt.lt {W : World} {b : Nat} {v : Value} {cs : List Value} (h : BoxAt W b (v :: cs)) : b < W.heap.size := World.block_lt_of_cell? W _ (h.cell 0 v rfl)
theorem BoxAt.alloc {W : World} {b : Nat} {v : Value} {cs : List Value} (h : BoxAt W b (v :: cs)) (o : Obj) : BoxAt (W.alloc o) b (v :: cs) := h.heap (Below.heap_alloc _ _ _ h.lt)
theorem BoxAt.drewN {W : World} {b : Nat} {cs : List Value} (h : BoxAt W b cs) (q : Nat) : BoxAt (W.drewN q) b cs := ⟨h.cell, h.frozen⟩
theorem BoxAt.grown {W W' : World} {b : Nat} {v : Value} {cs : List Value} (h : BoxAt W b (v :: cs)) (hg : W.grownBy W' none) : BoxAt W' b (v :: cs) := h.heap (hg.block b h.lt (by simp))
theorem BoxAt.own {W W' : World} {b : Nat} {v : Value} {cs : List Value} {row : Option Nat} (h : BoxAt W b (v :: cs)) (hg : W.grownBy W' row) (hr : ∀ r, row = some r → ∃ o : Obj, W.heap[r]? = some o ∧ o.isCells = false) : BoxAt W' b (v :: cs) :=
  ⟨fun i u hu => cell_kept (h.cell i u hu) hg hr, fun i => by
    have hb : W'.heap[b]? = W.heap[b]? := by
      refine hg.block b h.lt (fun e => ?_)
      obtain ⟨o, ho, hc⟩ := hr b e.symm
      have := h.cell 0 v rfl
      unfold World.cell? at this; rw [ho] at this; cases o <;> simp_all [Obj.isCells]
    exact (h.heap hb).frozen i⟩

theorem own_kpc {base : Nat} {A B : World} {row : Option Nat} (hg : A.grownBy B row) (hr : ∀ r, row = some r → base ≤ r ∧ ∃ o : Obj, A.heap[r]? = some o ∧ o.isCells = false) : KpC (fun _ _ => False) A B :=
  ⟨hg.size, fun b o _ ho hc => by
    refine (hg.block b (Array.getElem?_eq_some_iff.1 ho).1 (fun e => ?_)).trans ho
    obtain ⟨_, o', ho', hc'⟩ := hr b e.symm
    rw [ho] at ho'; cases ho'; rw [hc] at hc'; cases hc'⟩
theorem C_kpc {X : Nat → Obj → Prop} {W W' : World} {A : Option Addr} {m : Nat} {xs : List Int} (h : Kd.C (Kd.int .i64) W A m xs) (hk : KpC X W W') (hx : ∀ a o, A = some a → 0 < m → ¬ X a.block o) : Kd.C (Kd.int .i64) W' A m xs := by
  obtain ⟨h1, h2, h3⟩ := h
  refine ⟨h1, h2, fun hn => ?_⟩
  obtain ⟨ad, e, hc⟩ := h3 hn
  refine ⟨ad, e, fun j p hp => ?_⟩
  obtain ⟨c, hcl, hR, hcc⟩ := hc j p hp
  refine ⟨c, hcl, hR, fun i u hu => ?_⟩
  have h4 := hcc i u hu
  have hb : ∀ o, ¬ X (ad.add (j * (Kd.int .i64).sz + i)).block o := fun o => by rw [add_block]; exact hx ad o e hn
  generalize ad.add (j * (Kd.int .i64).sz + i) = p4 at h4 hb ⊢
  obtain ⟨o, ho⟩ : ∃ o, W.heap[p4.block]? = some o := ⟨_, Array.getElem?_eq_getElem (World.block_lt_of_cell? W _ h4)⟩
  have hoc : o.isCells = true := by
    unfold World.cell? at h4
    rw [ho] at h4
    cases o <;> simp_all [Obj.isCells]
  have h5 := hk.2 _ o (hb o) ho hoc
  unfold World.cell? at h4 ⊢
  rw [ho] at h4; rw [h5]; exact h4
theorem BoxAt.kpc {X : Nat → Obj → Prop} {W W' : World} {b : Nat} {v : Value} {cs : List Value} (h : BoxAt W b (v :: cs)) (hk : KpC X W W') (hx : ∀ o, W.heap[b]? = some o → ¬ X b o) : BoxAt W' b (v :: cs) := by
  obtain ⟨o, ho⟩ : ∃ o, W.heap[b]? = some o := ⟨_, Array.getElem?_eq_getElem h.lt⟩
  exact h.heap ((hk.2 b o (hx o ho) ho (isCells_of (h.cell 0 v rfl) ho)).trans ho.symm)
theorem BoxAt.far {W : World} {b : Nat} {cs : List Value} (h : BoxAt W b cs) {p : Addr} (hp : b ≠ p.block) (x : Value) : BoxAt (W.setCell p x) b cs := h.heap (Below.heap_setCell _ _ _ _ hp)
theorem BoxAt.put1 {W : World} {b : Nat} {u : Value} (h : BoxAt W b [u]) (x : Value) : BoxAt (W.setCell ⟨b, 0, none⟩ x) b [x] :=
  ⟨fun i v hv => by
    match i, hv with
    | 0, hv => cases hv; exact World.cell?_setCell_same' _ _ _ (by rw [h.cell 0 u rfl]; rfl)
    | i + 1, hv => simp at hv, fun i => by rw [World.frozen?_setCell]; exact h.frozen i⟩
theorem BoxAt.put2 {W : World} {b : Nat} {u v : Value} (h : BoxAt W b [u, v]) (x y : Value) : BoxAt ((W.setCell ⟨b, 0, none⟩ x).setCell ⟨b, 1, none⟩ y) b [x, y] := by
  have h0 : (W.setCell ⟨b, 0, none⟩ x).cell? ⟨b, 0, none⟩ = some x := World.cell?_setCell_same' _ _ _ (by rw [h.cell 0 u rfl]; rfl)
  have h1 : (W.setCell ⟨b, 0, none⟩ x).cell? ⟨b, 1, none⟩ = some v := by rw [World.cell?_setCell_other _ _ _ _ (by simp)]; exact h.cell 1 v rfl
  refine ⟨fun i z hz => ?_, fun i => by rw [World.frozen?_setCell, World.frozen?_setCell]; exact h.frozen i⟩
  match i, hz with
  | 0, hz => cases hz; rw [World.cell?_setCell_other _ _ _ _ (by simp)]; exact h0
  | 1, hz => cases hz; exact World.cell?_setCell_same' _ _ _ (by rw [h1]; rfl)
  | i + 2, hz => simp at hz
theorem stores3 {w W : World} {S : Nat} {u v z : Value} (y1 : BoxAt W (S + 1) [u, v]) (y2 : BoxAt W (S + 1 + 1) [z]) (y3 : Below S w W) (x y r : Value) (V : World) (hV : V = ((W.setCell ⟨S + 1, 0, none⟩ x).setCell ⟨S + 1, 1, none⟩ y).setCell ⟨S + 1 + 1, 0, none⟩ r) :
    KeepsOthers W V ∧ BoxAt V (S + 1) [x, y] ∧ BoxAt V (S + 1 + 1) [r] ∧ Below S w V := by
  subst hV
  refine ⟨((KeepsOthers.setCell _ _ _).trans (KeepsOthers.setCell _ _ _)).trans (KeepsOthers.setCell _ _ _), (y1.put2 x y).far (by simp) r, ((y2.far (by simp) x).far (by simp) y).put1 r, ?_⟩
  exact ((y3.setCell (p := ⟨S + 1, 0, none⟩) (by simp) _).setCell (p := ⟨S + 1, 1, none⟩) (by simp) _).setCell (p := ⟨S + 1 + 1, 0, none⟩) (by simp; omega) _
theorem find_at {α : Type} {xs pre rest : List α} {x : α} {p : α → Bool} (h : xs = pre ++ x :: rest) (hp : ∀ q ∈ pre, p q = false) (hx : p x = true) : xs.find? p = some x := by
  subst h
  rw [List.find?_append, List.find?_eq_none.2 (fun q hq => by simp [hp q hq])]
  simp [hx]


end Go.Proofs.Ytdnjbjcfbdclfaa.P
namespace Go.Proofs.Ytdnjbjcfbdclfaa.P
open Go.RowKit Go.Proofs.YtdnjbjcfbdclfaaW.PrintWords Go.Proofs.YtdnjbjcfbdclfaaW.PrintLast Go.Proofs.YtdnjbjcfbdclfaaW.PrintMore
attribute [local go_sem] max2_int min2_int max_two min_two max_three min_three max_four min_four   -- for this text's walks alone
set_option linter.unusedVariables false
set_option linter.unusedSimpArgs false

attribute [local go_sem] Oper.semAt_some
/-! voices.all: the loop over the next tone -/
section
variable {P : World → Nat → Prop} {XB : Nat → Prop} {S bk bn k n l : Nat}
set_option maxHeartbeats 4000000 in
set_option maxRecDepth 100000 in
theorem al_more {J : List (List Nat) → World → Prop} {xs : List (List Nat)} (hJs : ∀ s A B, J s A → AlSteps P A B → J s B) (hPI : ∀ s A, J s A → AlPI P A) (hbk : bk < S) (hbn : bn < S) (hk : k ≤ 100) (hn : n ≤ 1000) (f r : Nat) (hf : f ≤ n) (cur : List Nat) (hc : cur.length + (r + 1) = k) (pre rest : List (List Nat)) (W : World) (hx : xs = pre ++ alTo n r f cur (n - f) ++ rest) (hJ : J pre W) (hL : AlSt P S bk bn k n l cur W)
    (ih : ∀ (x : Nat) (pre rest : List (List Nat)) (W : World), f ≤ x → x < n → xs = pre ++ alN n r x (cur ++ [x]) ++ rest → J pre W → AlSt P S bk bn k n l (cur ++ [x]) W →
      CallsIn Fence.wide 2 Try.prog 58 #[.int .i64 (x : Int), .pointer (some ⟨S + 1, 0, none⟩), .pointer (some ⟨bk, 0, none⟩), .pointer (some ⟨S, 0, none⟩), .pointer (some ⟨bn, 0, none⟩), .pointer (some ⟨S + 1 + 1, 0, none⟩)] W (AlPost P S bk bn k n l J (cur ++ [x]) (pre ++ alN n r x (cur ++ [x])))) :
    CallsIn Fence.wide 2 Try.prog 58 #[.int .i64 (f : Int), .pointer (some ⟨S + 1, 0, none⟩), .pointer (some ⟨bk, 0, none⟩), .pointer (some ⟨S, 0, none⟩), .pointer (some ⟨bn, 0, none⟩), .pointer (some ⟨S + 1 + 1, 0, none⟩)] W (AlPost P S bk bn k n l J cur (pre ++ alTo n r f cur (n - f))) := by
  have HL := Aside0.mk hL
  have HJ := Aside0.mk hJ
  have HIH := Aside0.mk ih
  have HJS := Aside0.mk hJs
  have HPI := Aside0.mk hPI
  have HX := Aside0.mk hx
  obtain ⟨A, c, cl, hR⟩ := hL.cvv
  have ck := hL.ck
  obtain ⟨L, hlen⟩ : ∃ L, (nums cur).length = L := ⟨_, rfl⟩
  have hLk : L < k := by rw [nums_length] at hlen; omega
  rw [hlen] at cl
  have HLEN := Aside0.mk hlen
  have hne : ((L : Int) == (k : Int)) = false := beq_eq_false_iff_ne.2 (by omega)
  clear hL hR hlen hc hJ ih hJs hPI hx
  refine callsIn_of_wp Try.func58 rfl trivial ?_ rfl
  simp only [Try.ntmps58, List.size_toArray, List.length_cons, List.length_nil, Nat.reduceAdd, Nat.reduceSub, Array.replicate_succ, Array.replicate_zero, List.push_toArray, List.append_toArray, List.nil_append, List.cons_append]
  gi_wp2
  gi_loopw [8] (fun p wr => ∃ x i : Nat, p = .int .i64 (x : Int) ∧ x = f + i ∧ x ≤ n ∧ Aside0 (J (pre ++ alTo n r f cur i) wr) ∧ Aside0 (AlSt P S bk bn k n l cur wr)) (fun p wr => n - (intO p).toNat)
  case atStart => exact ⟨f, 0, rfl, rfl, hf, ⟨by show J (pre ++ []) _; rw [List.append_nil]; exact HJ.out⟩, HL⟩
  case round =>
    clear HL HJ cl ck hne
    obtain ⟨x, i, rfl, hxi, hxn, HJ, HL⟩ := hrel
    have HXI := Aside0.mk hxi
    have cn := HL.out.cn
    clear hxi
    rcases Nat.lt_or_eq_of_le hxn with hlt | rfl
    · have hltz : (x : Int) < (n : Int) := by omega
      have HLT := Aside0.mk hlt
      have HS : Aside0 (alTo n r f cur (i + 1) = alTo n r f cur i ++ alN n r x (cur ++ [x])) := ⟨by rw [HXI.out]; exact alTo_succ n r f cur i⟩
      have HX2 : Aside0 (∃ t, xs = (pre ++ alTo n r f cur i) ++ alN n r x (cur ++ [x]) ++ t) := ⟨by
        obtain ⟨t, ht⟩ := alTo_split n r f cur (show i < n - f by have := HXI.out; omega)
        exact ⟨t ++ rest, by rw [HX.out, ht, HXI.out]; simp⟩⟩
      have hfx : f ≤ x := by have := HXI.out; omega
      have HFX := Aside0.mk hfx
      clear hxn hlt hfx
      obtain ⟨A, c, cl, hR⟩ := HL.out.cvv
      have HCL := Aside0.mk cl
      have HR := Aside0.mk hR
      rw [HLEN.out] at cl
      have HPI1 := Aside0.mk (HPI.out _ _ HJ.out)
      obtain ⟨i0, hi, hz0, hz1, hz2⟩ := info_parts info3
      have HNC := Aside0.mk (BoxAt.new wr [.int .i64 (x : Int)] 3)
      have HROW : Aside0 ((wr.alloc (.cells #[.int .i64 (x : Int)] 3)).ownsRow (S + 3) 3 1 (.slice A L c) L ((nums cur).map (Value.int .i64))) := ⟨by rw [← HLEN.out]; exact own_alloc (Kd.own_of_R HR.out) _⟩
      have hsz : S + 3 ≤ wr.heap.size := by have := World.block_lt_of_cell? wr _ HL.out.cg; simp only at this; omega
      have HSZ := Aside0.mk hsz
      clear hR hsz
      gi_wp2_with (first | (gi_at_builtin; refine wpListIn_append_own_at _ rfl (.tmp 24) (.tmp 26) 22 rfl (S + 3) 3 i0 _ 1 8 Try.underlying22 hi hz0 hz1 hz2 rfl (by decide) _ _ _ rfl HROW.out ⟨wr.heap.size, 0, none⟩ 1 1 [.int .i64 (x : Int)] rfl rfl (fun j u hu => by rw [add_plain]; exact HNC.out.cell j u hu) (by simp [Value.oneCell']) ?ab ?ab2 ?ab3 ?_; (case ab => simp only [maxLen]; omega); (case ab2 => omega); (case ab3 => have := HSZ.out; simp only [World.size_alloc]; omega); intro v' w1 hown' hgrow hnil hat; obtain ⟨A9, c9, e9⟩ := own_slice hown'; subst e9; obtain ⟨c1, f1, hst, hl2⟩ := AlSt.app hbk hbn HL.out HPI1.out HCL.out HR.out x (by rw [HLEN.out]; exact hown') (by rw [HLEN.out]; exact hgrow) (by rw [HLEN.out]; exact hat); rw [HLEN.out] at c1; have HST := Aside0.mk hst; have HL2 := Aside0.mk hl2; have cg2 : (w1.setCell ⟨S + 1, 0, none⟩ (.slice A9 (L + 1) c9)).cell? ⟨S + 1 + 1, 0, none⟩ = some (.func (.func 58) #[] #[.pointer (some ⟨S + 1, 0, none⟩), .pointer (some ⟨bk, 0, none⟩), .pointer (some ⟨S, 0, none⟩), .pointer (some ⟨bn, 0, none⟩), .pointer (some ⟨S + 1 + 1, 0, none⟩)]) := hl2.cg; have cg1 : w1.cell? ⟨S + 1 + 1, 0, none⟩ = some (.func (.func 58) #[] #[.pointer (some ⟨S + 1, 0, none⟩), .pointer (some ⟨bk, 0, none⟩), .pointer (some ⟨S, 0, none⟩), .pointer (some ⟨bn, 0, none⟩), .pointer (some ⟨S + 1 + 1, 0, none⟩)]) := by { rw [← cg2]; unfold World.cell?; simp only [Below.heap_setCell w1 ⟨S + 1, 0, none⟩ (.slice A9 (L + 1) c9) (S + 1 + 1) (by simp)] }; obtain ⟨t, ht⟩ := HX2.out; have HCALL := Aside0.mk (HIH.out x (pre ++ alTo n r f cur i) t _ HFX.out HLT.out ht (HJS.out _ _ _ HJ.out HST.out) hl2); clear hown' hgrow hnil hat hst hl2 ht))
      refine ⟨trivial, (callsIn_wide.2 (callsIn_wide.1 HCALL.out)).mono ?_⟩
      rintro e w3 ⟨rfl, hj3, hl3⟩
      obtain ⟨A3, c3, cl3, hr3⟩ := hl3.cvv
      have hsn : (nums (cur ++ [x])).length = L + 1 := by rw [nums_snoc, List.length_append, HLEN.out]; rfl
      have HCL3 := Aside0.mk cl3
      rw [hsn] at cl3
      have fl3 := hl3.fv
      have hc3 : L + 1 ≤ c3 := hsn ▸ (Kd.R_reads' hr3).2.1
      have hc3z : (L : Int) ≤ (c3 : Int) := by omega
      have hpop := AlSt.pop x hbk hbn hl3 (HPI.out _ _ hj3) (by rw [HLEN.out]; exact cl3) (by rw [HLEN.out, ← hsn]; exact hr3)
      rw [HLEN.out] at hpop
      have HPOP := Aside0.mk hpop
      have HJ3 := Aside0.mk (HJS.out _ _ _ hj3 hpop.1)
      have HL3 := Aside0.mk hpop.2
      clear hr3 hl3 hj3 hsn hpop hc3
      gi_wp2
      go_roundw
      case rel => exact ⟨x + 1, i + 1, by go_num, by have := HXI.out; omega, HLT.out, ⟨by rw [HS.out, ← List.append_assoc]; exact HJ3.out⟩, HL3⟩
      case measure => exact intO_less (by go_num) HLT.out
    · gi_wp2
      refine bodyPost_ret (results_tmp rfl _ _ _) rfl ?_
      have hj := HJ.out
      rw [show i = x - f by have := HXI.out; omega] at hj
      exact ⟨rfl, hj, HL.out⟩
end

end Go.Proofs.Ytdnjbjcfbdclfaa.P
namespace Go.Proofs.Ytdnjbjcfbdclfaa.P
open Go.RowKit
/-! A range over an iterator that writes blocks of its own between the rounds; no round leaves the loop. What a round may keep of what it is handed is told by Kp. -/
def LeftGo {α : Type} (Kp : World → World → Prop) (I : List α → World → Prop) (xs : List α) (W : World) : Exit → Act → World → Prop
  | .normal, _, W' => KeepsOthers W W' ∧ Kp W W' ∧ I xs W'
  | _, _, _ => False
def SeqFg {α : Type} (F : Fence) (n : Nat) (P : Program) (g : Nat) (fs lb : Array Value) (Enc : α → World → Array Value → Prop) (xs : List α) (St : World → World → Prop) (Kp : Array Value → World → World → Prop) (PI : World → Prop) (w : World) : Prop :=
  ∀ (l : Nat) (J : List α → World → Prop) (W : World), Below w.heap.size w W → (∀ s A B, J s A → St A B → J s B) → (∀ s A, J s A → PI A) →
    (∀ pre x rest W1 vals, xs = pre ++ x :: rest → J pre W1 → Enc x W1 vals → YieldAt F (n - 1) P l vals W1 fun e W' => e = .returned (.bool true) ∧ J (pre ++ [x]) W' ∧ Kp vals W1 W') →
    J [] W →
    CallsIn F n P g (fs ++ #[.func (.yield l) #[] #[]] ++ lb) W fun e W' => (∃ v, e = .returned v) ∧ J xs W'
variable {F : Fence} {n : Nat} {P : Program}
theorem range_fg {α : Type} {g : Operand} {ps : Array Tmp} {assign body : Code} {Q : Exit → Act → World → Prop} {a : Act} {w : World}
    (hro : F.round = none) (h1 : 1 ≤ n) {gf : Nat} {fs lb : Array Value} (hg : a.eval g = .func (.func gf) fs lb) (hFg : F.fn gf) (eg : ∀ args w, (callFunc gf args).run P w = .ok (.enter gf args) w)
    {Enc : α → World → Array Value → Prop} {St : World → World → Prop} {Kp : Array Value → World → World → Prop} {PI : World → Prop} {xs : List α} (hseq : SeqFg F (n - 1) P gf fs lb Enc xs St Kp PI w) (hps : ∀ x W vals, Enc x W vals → vals.size = ps.size)
    (hSt : ∀ A B, St A B → KeepsOthers A B)
    (hKt : ∀ {v : Array Value} {A B C : World}, Kp v A B → Kp v B C → Kp v A C) (hKb : ∀ (v : Array Value) (W : World) (l : Nat) (o o' : Obj), w.heap.size ≤ l → W.heap[l]? = some o → o.isCells = false → Kp v W (W.putObj l o'))
    (I : List α → World → Prop) (hI : OwnFrom w.heap.size I)
    (hIs : ∀ s A B, I s A → St A B → I s B) (hPI : ∀ s A, I s A → PI A) (h0 : I [] w) (Ax : α → Array Value → Act → World → Prop) (hAx : ∀ x v a', OwnFrom w.heap.size (fun (_ : Unit) W => Ax x v a' W))
    (hassign : ∀ (l : Nat) (pre : List α) (x : α) (vals : Array Value) (W : World) (K : Act → World → Prop), I pre W → Enc x W vals → (∀ a' W', KeepsOthers W W' → Kp vals W W' → I pre W' → Ax x vals a' W' → K a' W') →
      assign.wpIn (F.inRound l) (n - 1 - 1) P (Exit.then K (fun _ _ _ => False)) { tmps := (ps.zip vals).foldl (fun t (p, v) => t.setIfInBounds p v) a.tmps, defers := [] } W)
    (hbody : ∀ (l : Nat) (pre : List α) (x : α) (rest : List α) (vals : Array Value) (a' : Act) (W : World), w.heap.size ≤ l → (∃ r, W.heap[l]? = some (.loop r)) → xs = pre ++ x :: rest → I pre W → Ax x vals a' W → body.wpIn (F.inRound l) (n - 1 - 1) P (LeftGo (Kp vals) I (pre ++ [x]) W) a' W)
    (hdone : ∀ (D : Nat) (W : World), w.heap.size ≤ D → I xs W → W.heap[D]? = some (.deferred (some [])) → Q .normal { a with defers := { target := .collected D, args := #[] } :: a.defers } W) :
    (Code.rangeFunc g ps assign body).wpIn F n P Q a w := by
  refine wpIn_rangeFunc (fun fn hfn => ?_)
  rw [hro]
  obtain ⟨R, hR⟩ : ∃ R : LoopState → Option Code → Loop, R = fun st pe => { state := st, pending := pe, fn, tmps := a.tmps, params := ps, assign, body, defers := w.heap.size } := ⟨_, rfl⟩
  obtain ⟨V, hV⟩ : ∃ V, (w.alloc (.deferred (some []))).alloc (.loop (R .ready none)) = V := ⟨_, rfl⟩
  have recV : V.heap[w.heap.size + 1]? = some (.loop (R .ready none)) := by
    rw [← hV]; have := World.alloc_heap_new (w.alloc (.deferred (some []))) (.loop (R .ready none)); rwa [World.size_alloc] at this
  have defV : V.heap[w.heap.size]? = some (.deferred (some [])) := by
    rw [← hV]; exact (Below.heap_alloc _ _ _ (by simp)).trans (World.alloc_heap_new w _)
  have iV : I [] V := by rw [← hV]; exact hI.alloc _ (hI.alloc _ h0)
  have bV : Below w.heap.size w V := by
    rw [← hV]; exact (((Below.refl _ w).alloc (Nat.le_refl _) _).alloc (by simp) _)
  refine ⟨w.heap.size + 1, [{ target := .collected w.heap.size, args := #[] }], V, { target := .fn (.func gf) lb, args := fs ++ #[.func (.yield (w.heap.size + 1)) #[] #[]] }, V, gf,
    fs ++ #[.func (.yield (w.heap.size + 1)) #[] #[]] ++ lb, V, ?_, ?_, ?_, ?_, fun _ => h1, ?_⟩
  · rw [← hV, hR]; exact run_enterLoop_outer _ _ _ _ _
  · simp only [resolve, hg]
    simp [go_sem]
  · intro f' hf'; simp [Target.leads] at hf'; subst hf'; exact hFg
  · simp [invoke, go_sem, eg]
  · refine (hseq (w.heap.size + 1)
      (fun pre W => I pre W ∧ W.heap[w.heap.size + 1]? = some (.loop (R .ready none)) ∧ W.heap[w.heap.size]? = some (.deferred (some [])))
      V bV
      (fun s A B hs hst => ⟨hIs s A B hs.1 hst, (hSt A B hst).same _ _ hs.2.1 rfl, (hSt A B hst).same _ _ hs.2.2 rfl⟩)
      (fun s A hs => hPI s A hs.1)
      ?_ ⟨iV, recV, defV⟩).mono ?_
    · rintro pre x rest W vals hx ⟨hi, hl, hk⟩ hE
      have hy := run_yield (P := P) (args := vals) hl (by rw [hR]; exact hps x W vals hE)
      rw [hR] at hy
      refine ⟨fn, _, assign, body, hy, roundIn_of_wpIn hfn (hassign _ pre x vals W _ hi hE ?_)⟩
      intro a' W' k1 kp1 i1 ax1
      have hl1 : W'.heap[w.heap.size + 1]? = some (.loop (R .ready none)) := k1.same _ _ hl rfl
      have hk1 : W'.heap[w.heap.size]? = some (.deferred (some [])) := k1.same _ _ hk rfl
      have hlt : w.heap.size + 1 < W'.heap.size := (Array.getElem?_eq_some_iff.1 hl1).1
      refine ⟨_, run_beginRound hl1 (by rw [hR]), ?_⟩
      have hl2 : (W'.putObj (w.heap.size + 1) (.loop { R .ready none with state := .busy })).heap[w.heap.size + 1]? = some (.loop { R .ready none with state := .busy }) := World.putObj_heap_same hlt
      have hk2 : (W'.putObj (w.heap.size + 1) (.loop { R .ready none with state := .busy })).heap[w.heap.size]? = some (.deferred (some [])) := (World.putObj_heap_other (by omega)).trans hk1
      have hw2 : Kp vals W (W'.putObj (w.heap.size + 1) (.loop { R .ready none with state := .busy })) := hKt kp1 (hKb _ _ _ _ _ (by omega) hl1 rfl)
      refine wpIn_mono (hbody _ pre x rest vals a' _ (by omega) ⟨_, hl2⟩ hx (hI.putObj _ i1 (by omega) hl1 rfl) ((hAx x vals a').putObj (s := ()) _ ax1 (by omega) hl1 rfl)) ?_
      have ends : ∀ (jump : Option Code) (W3 : World), KeepsOthers (W'.putObj (w.heap.size + 1) (.loop { R .ready none with state := .busy })) W3 →
          (Instr.endRound (w.heap.size + 1) jump).run P W3 = .ok (.bool jump.isNone) (W3.putObj (w.heap.size + 1) (.loop (R (if jump.isNone then .ready else .done) jump))) ∧
          W3.heap[w.heap.size + 1]? = some (.loop { R .ready none with state := .busy }) ∧
          (W3.putObj (w.heap.size + 1) (.loop (R (if jump.isNone then .ready else .done) jump))).heap[w.heap.size + 1]? = some (.loop (R (if jump.isNone then .ready else .done) jump)) ∧
          (W3.putObj (w.heap.size + 1) (.loop (R (if jump.isNone then .ready else .done) jump))).heap[w.heap.size]? = some (.deferred (some [])) := fun jump W3 k3 => by
        have hl3 := k3.same _ _ hl2 rfl
        have := run_endRound (P := P) jump hl3
        rw [hR] at this ⊢
        exact ⟨this, by rw [hR] at hl3; exact hl3, World.putObj_heap_same (Array.getElem?_eq_some_iff.1 hl3).1, (World.putObj_heap_other (by omega)).trans (k3.same _ _ hk2 rfl)⟩
      rintro e a3 W3 hp
      cases e with
      | normal =>
        obtain ⟨k3, kp3, i3⟩ := hp
        obtain ⟨hr, hl3, hl4, hk4⟩ := ends none W3 k3
        exact ⟨_, _, hr, ⟨rfl, ⟨hI.putObj _ i3 (by omega) hl3 rfl, hl4, hk4⟩, hKt (hKt hw2 kp3) (hKb _ _ _ _ _ (by omega) hl3 rfl)⟩⟩
      | ret => exact hp.elim
      | exit id => exact hp.elim
      | goto t => exact hp.elim
      | panic ch => exact hp.elim
      | outgrown => exact hp.elim
    · rintro e W2 ⟨⟨v, rfl⟩, hi, hl, hk⟩
      exact ⟨none, _, by have := run_endLoop (P := P) hl (by rw [hR]; simp); rw [hR] at this; exact this, hdone _ _ (Nat.le_refl _) (hI.putObj _ hi (by omega) hl rfl) ((World.putObj_heap_other (by omega)).trans hk)⟩
end Go.Proofs.Ytdnjbjcfbdclfaa.P
namespace Go.Proofs.Ytdnjbjcfbdclfaa.P
open Go.RowKit Go.Proofs.YtdnjbjcfbdclfaaW.PrintWords Go.Proofs.YtdnjbjcfbdclfaaW.PrintLast Go.Proofs.YtdnjbjcfbdclfaaW.PrintMore
attribute [local go_sem] max2_int min2_int max_two min_two max_three min_three max_four min_four   -- for this text's walks alone
set_option linter.unusedVariables false
set_option linter.unusedSimpArgs false

attribute [local go_sem] Oper.semAt_some
/-! voices.all: the iterator as a whole -/
section
variable {P : World → Nat → Prop} {XB : Nat → Prop} {S bk bn k n l : Nat}
theorem al_grow {J : List (List Nat) → World → Prop} {xs : List (List Nat)} (hR : AlRound P XB l xs J) (hJs : ∀ s A B, J s A → AlSteps P A B → J s B) (hPI : ∀ s A, J s A → AlPI P A) (hXB : ∀ i, XB i → i < S ∧ i ≠ bk ∧ i ≠ bn) (hbk : bk < S) (hbn : bn < S) (hk1 : 1 ≤ k) (hk : k ≤ 100) (hn : n ≤ 1000) :
    ∀ (r f : Nat) (cur : List Nat) (pre rest : List (List Nat)) (W : World), cur.length + r = k → f ≤ n → xs = pre ++ alN n r f cur ++ rest → J pre W → AlSt P S bk bn k n l cur W →
    CallsIn Fence.wide 2 Try.prog 58 #[.int .i64 (f : Int), .pointer (some ⟨S + 1, 0, none⟩), .pointer (some ⟨bk, 0, none⟩), .pointer (some ⟨S, 0, none⟩), .pointer (some ⟨bn, 0, none⟩), .pointer (some ⟨S + 1 + 1, 0, none⟩)] W (AlPost P S bk bn k n l J cur (pre ++ alN n r f cur)) := by
  intro r
  induction r with
  | zero =>
    intro f cur pre rest W hc hf hx hJ hL
    exact al_end hR hJs hPI hXB hk1 hk f cur pre rest W (by omega) (by rw [hx, alN, List.append_assoc]; rfl) hJ hL
  | succ r ih =>
    intro f cur pre rest W hc hf hx hJ hL
    refine al_more hJs hPI hbk hbn hk hn f r hf cur (by omega) pre rest W hx hJ hL (fun x pre rest W _ hx2 hx3 hJ hL => ?_)
    exact ih x _ pre rest W (by rw [List.length_append, List.length_singleton]; omega) (by omega) hx3 hJ hL
end
theorem al_start {P : World → Nat → Prop} {bk bn k n : Nat} (l : Nat) (W : World) (cbk : W.cell? ⟨bk, 0, none⟩ = some (.int .i64 (k : Int))) (cbn : W.cell? ⟨bn, 0, none⟩ = some (.int .i64 (n : Int))) (hpi : AlPI P W) (t0 t1 t2 : TypeId) (W0 : World)
    (h : ((W.alloc (.cells #[.func (.yield l) #[] #[]] t0)).alloc (.cells #[.slice none 0 0] t1)).alloc (.cells #[alGrow W.heap.size bk bn] t2) = W0) :
    AlSteps P W W0 ∧ AlSt P W.heap.size bk bn k n l [] W0 := by
  subst h
  have hf : Fr (fun i => i < W.heap.size) W (((W.alloc (.cells #[.func (.yield l) #[] #[]] t0)).alloc (.cells #[.slice none 0 0] t1)).alloc (.cells #[alGrow W.heap.size bk bn] t2)) :=
    ((Fr.alloc _ _ (fun _ h => h)).trans (Fr.alloc _ _ (fun _ h => by simp only [World.size_alloc]; omega))).trans (Fr.alloc _ _ (fun _ h => by simp only [World.size_alloc]; omega))
  have hst : AlSteps P W _ := ⟨hf.mono (fun i hi => hpi.1 i hi), ((KeepsOthers.alloc _ _).trans (KeepsOthers.alloc _ _)).trans (KeepsOthers.alloc _ _)⟩
  have hiff := hpi.2 _ hst.1
  have a1 := (new_cell W (.func (.yield l) #[] #[]) t0).1
  have a2 := new_cell (W.alloc (.cells #[.func (.yield l) #[] #[]] t0)) (.slice none 0 0) t1
  have a3 := (new_cell ((W.alloc (.cells #[.func (.yield l) #[] #[]] t0)).alloc (.cells #[.slice none 0 0] t1)) (alGrow W.heap.size bk bn) t2).1
  simp only [World.size_alloc] at a2 a3
  refine ⟨hst, (hf.cell (World.block_lt_of_cell? W _ cbk) 0).trans cbk, (hf.cell (World.block_lt_of_cell? W _ cbn) 0).trans cbn, old_cell _ (old_cell _ a1), ⟨none, 0, old_cell _ a2.1, Kd.R_nil _ _ _ _ _⟩, old_frozen _ a2.1 a2.2, a3, fun i h1 _ hp => ?_⟩
  have := hpi.1 i ((hiff i).1 hp)
  omega
set_option maxHeartbeats 4000000 in
set_option maxRecDepth 100000 in
theorem all_seq {P : World → Nat → Prop} {XB : Nat → Prop} {bk bn k n : Nat} (w : World) (cbk : w.cell? ⟨bk, 0, none⟩ = some (.int .i64 (k : Int))) (cbn : w.cell? ⟨bn, 0, none⟩ = some (.int .i64 (n : Int))) (hXB : ∀ i, XB i → i < w.heap.size ∧ i ≠ bk ∧ i ≠ bn) (hk1 : 1 ≤ k) (hk : k ≤ 100) (hn : n ≤ 1000) :
    SeqFg Fence.wide 2 Try.prog 57 #[] #[.pointer (some ⟨bk, 0, none⟩), .pointer (some ⟨bn, 0, none⟩)] (AlEnc P) (alN n k 0 []) (AlSteps P) (AlKp P XB) (AlPI P) w := by
  intro l J W hW hJs hPI hY h0
  have HY := Aside0.mk hY
  have HJS := Aside0.mk hJs
  have HPI := Aside0.mk hPI
  have HJ := Aside0.mk h0
  have HXB := Aside0.mk hXB
  have HBK := Aside0.mk ((hW.cell (World.block_lt_of_cell? w _ cbk)).trans cbk)
  have HBN := Aside0.mk ((hW.cell (World.block_lt_of_cell? w _ cbn)).trans cbn)
  have hS1 := hW.size
  have hmf : ∀ (fn : Fn) (first cap : Array Value) (w : World), (Instr.makeFunc fn first cap).run Try.prog w = .ok (.func fn first cap) w := fun _ _ _ _ => rfl
  clear hW hJs hPI hY h0 hXB cbk cbn
  simp only [List.push_toArray, List.append_toArray, List.nil_append, List.cons_append]
  refine callsIn_of_wp Try.func57 rfl trivial ?_ rfl
  simp only [Try.ntmps57, List.size_toArray, List.length_cons, List.length_nil, Nat.reduceAdd, Nat.reduceSub, Array.replicate_succ, Array.replicate_zero, List.push_toArray, List.append_toArray, List.nil_append, List.cons_append]
  gi_wp2
  obtain ⟨W0, hW0⟩ : ∃ W0, ((W.alloc (.cells #[.func (.yield l) #[] #[]] 53)).alloc (.cells #[.slice none 0 0] 22)).alloc (.cells #[alGrow W.heap.size bk bn] 69) = W0 := ⟨_, rfl⟩
  obtain ⟨hst, hl⟩ := al_start (P := P) l W HBK.out HBN.out (HPI.out _ _ HJ.out) _ _ _ W0 hW0
  have hbk := World.block_lt_of_cell? W _ HBK.out
  have hbn := World.block_lt_of_cell? W _ HBN.out
  have hrun := al_grow (P := P) (XB := XB) (l := l) (J := J) (xs := alN n k 0 []) (fun pre x rest W1 vals => HY.out pre x rest W1 vals) HJS.out HPI.out (fun i hi => ⟨by have := HXB.out i hi; omega, (HXB.out i hi).2⟩) hbk hbn hk1 hk hn k 0 [] [] [] W0 (by simp) (by omega) (by simp) (HJS.out _ _ _ HJ.out hst) hl
  rw [show ((0 : Nat) : Int) = 0 from rfl] at hrun
  unfold alGrow at hW0
  rw [hW0]
  refine ⟨trivial, (callsIn_wide.2 (callsIn_wide.1 hrun)).mono ?_⟩
  rintro e w3 ⟨rfl, hj3, hl3⟩
  gi_wp2
  go_end0
  exact ⟨⟨_, rfl⟩, hj3⟩

end Go.Proofs.Ytdnjbjcfbdclfaa.P
namespace Go.Proofs.Ytdnjbjcfbdclfaa.P
open Go.RowKit Go.Proofs.YtdnjbjcfbdclfaaW.PrintWords Go.Proofs.YtdnjbjcfbdclfaaW.PrintLast Go.Proofs.YtdnjbjcfbdclfaaW.PrintMore
attribute [local go_sem] max2_int min2_int max_two min_two max_three min_three max_four min_four   -- for this text's walks alone
set_option linter.unusedVariables false
set_option linter.unusedSimpArgs false

def BestPost (w : World) (o : Option (List Nat)) (c : Int) (e : Ending) (w' : World) : Prop := ∃ A cc, e = .returned (.tuple #[.slice A (optL o).length cc, .int .i64 c]) ∧ Kd.R (Kd.int .i64) 3 w' w.heap.size (fun _ => True) (.slice A (optL o).length cc) (optL o) ∧ A.isNone = o.isNone ∧ Below w.heap.size w w'
theorem six_new (w : World) (v0 v1 v2 v3 v4 v5 : Value) (t0 t1 t2 t3 t4 t5 : TypeId) (W0 : World) (h : (((((w.alloc (.cells #[v0] t0)).alloc (.cells #[v1] t1)).alloc (.cells #[v2] t2)).alloc (.cells #[v3] t3)).alloc (.cells #[v4] t4)).alloc (.cells #[v5] t5) = W0) :
    W0.cell? ⟨w.heap.size, 0, none⟩ = some v0 ∧ W0.cell? ⟨w.heap.size + 1, 0, none⟩ = some v1 ∧ W0.cell? ⟨w.heap.size + 1 + 1, 0, none⟩ = some v2 ∧ W0.cell? ⟨w.heap.size + 1 + 1 + 1, 0, none⟩ = some v3 ∧ W0.cell? ⟨w.heap.size + 1 + 1 + 1 + 1, 0, none⟩ = some v4 ∧ W0.cell? ⟨w.heap.size + 1 + 1 + 1 + 1 + 1, 0, none⟩ = some v5 ∧
      W0.frozen? ⟨w.heap.size + 1 + 1 + 1 + 1, 0, none⟩ = false ∧ W0.frozen? ⟨w.heap.size + 1 + 1 + 1 + 1 + 1, 0, none⟩ = false ∧ W0.heap.size = w.heap.size + 6 ∧ Below w.heap.size w W0 := by
  obtain ⟨W4, h4⟩ : ∃ W4, (((w.alloc (.cells #[v0] t0)).alloc (.cells #[v1] t1)).alloc (.cells #[v2] t2)).alloc (.cells #[v3] t3) = W4 := ⟨_, rfl⟩
  rw [h4] at h
  obtain ⟨c0, c1, c2, c3, _, _, z4, B4⟩ := four_new w v0 v1 v2 v3 t0 t1 t2 t3 _ rfl W4 h4
  subst h
  have a4 := new_cell W4 v4 t4
  have a5 := new_cell (W4.alloc (.cells #[v4] t4)) v5 t5
  simp only [World.size_alloc, z4] at a4 a5
  refine ⟨old_cell _ (old_cell _ c0), old_cell _ (old_cell _ c1), old_cell _ (old_cell _ c2), old_cell _ (old_cell _ c3), old_cell _ a4.1, a5.1, old_frozen _ a4.1 a4.2, a5.2, by simp [World.size_alloc, z4], below_alloc (below_alloc B4 _) _⟩
section
variable (w : World) (n : Int) (Aa : Option Addr) (ca : Nat) (a : List Int) (Ab : Option Addr) (cb : Nat) (b : List Int) (gis : Nat) (lbis : Array Value) (pr : List Nat → Int) (p : List Nat → Bool)
set_option maxHeartbeats 8000000 in
set_option maxRecDepth 100000 in
theorem best_calls (egis : ∀ args w, (callFunc gis args).run Try.prog w = .ok (.enter gis args) w) (k : Nat) (hka : a.length = k) (hk1 : 1 ≤ k) (hk2 : k ≤ 20) (hp : GivesIs w gis lbis p k) (hpr : ∀ x : List Nat, x.length = k → (∀ y ∈ x, y < k) → ∃ kk, voices_circle_price.f kk n a b (nums x) = some (pr x)) (hra : Kd.C (Kd.int .i64) w Aa a.length a) (hca : a.length ≤ ca) (hrb : Kd.C (Kd.int .i64) w Ab b.length b) (hcb : b.length ≤ cb) :
    Calls Try.prog 35 #[.int .i64 n, .slice Aa a.length ca, .slice Ab b.length cb, .func (.func gis) #[] lbis] w (BestPost w (bfold pr p (ldg k k 0 [])).1 (bfold pr p (ldg k k 0 [])).2) := by
  subst hka
  have HM := Aside0.mk (best_more w n Aa ca a Ab cb b gis lbis pr p egis a.length hk1 hk2 hp hpr hra hca hrb hcb)
  have hmf : ∀ (fn : Fn) (first cap : Array Value) (w : World), (Instr.makeFunc fn first cap).run Try.prog w = .ok (.func fn first cap) w := fun _ _ _ _ => rfl
  have HK2 := Aside0.mk hk2
  have HRA := Aside0.mk hra
  clear hp hpr hra hrb hcb hca hk1 hk2
  generalize hal : a.length = la at *
  have HAL := Aside0.mk hal
  clear hal
  generalize hbl : b.length = lbb at *
  have HBL := Aside0.mk hbl
  clear hbl
  generalize hst : bfold pr p (ldg la la 0 []) = st
  have HST := Aside0.mk hst
  clear hst
  go_enter Try.func35, Try.ntmps35
  go_wp2_with fail
  obtain ⟨W0, hW0⟩ : ∃ W0, (((((w.alloc (.cells #[.int .i64 n] 49)).alloc (.cells #[.slice Aa la ca] 22)).alloc (.cells #[.slice Ab lbb cb] 22)).alloc (.cells #[.func (.func gis) #[] lbis] 53)).alloc (.cells #[.slice none 0 0] 22)).alloc (.cells #[.int .i64 0] 3) = W0 := ⟨_, rfl⟩
  obtain ⟨c0, c1, c2, c3, c4, c5, f4, f5, z, B0⟩ := six_new w _ _ _ _ _ _ _ _ _ _ _ _ W0 hW0
  rw [hW0]
  have hrun := leadings_calls (S := w.heap.size + 6) (enters_of Try.func53 (by kernel_rfl) rfl) HK2.out (best_inter w n Aa ca a Ab cb b gis lbis pr p) HM.out W0 z.symm (fun W hW => by
    have hc : ∀ i, i < w.heap.size + 6 → W.cell? ⟨i, 0, none⟩ = W0.cell? ⟨i, 0, none⟩ := fun i hi => hW.cell (p := ⟨i, 0, none⟩) hi
    have hz : ∀ i, i < w.heap.size + 6 → W.frozen? ⟨i, 0, none⟩ = W0.frozen? ⟨i, 0, none⟩ := fun i hi => hW.frozen (p := ⟨i, 0, none⟩) hi
    refine ⟨⟨B0.trans (hW.mono (by omega)), by have := hW.size; omega, (hc _ (by omega)).trans c0, by rw [HAL.out]; exact (hc _ (by omega)).trans c1, by rw [HBL.out]; exact (hc _ (by omega)).trans c2, (hc _ (by omega)).trans c3, ⟨none, 0, (hc _ (by omega)).trans c4, ?_, rfl⟩, (hc _ (by omega)).trans c5, (hz _ (by omega)).trans f4, (hz _ (by omega)).trans f5⟩, fun i hi => ?_⟩
    · exact Kd.R_nil _ _ _ _ _
    · rcases hi with hi | ⟨A0, l, c, e, _⟩
      · exact hi
      · rw [(hc _ (by omega)).trans c4] at e; cases e)
  unfold MoreLb at hrun
  have HR := Aside0.mk hrun
  clear hW0 c0 c1 c2 c3 c4 c5 f4 f5 z B0 hrun
  refine HR.out.mono ?_
  rintro e w2 ⟨⟨rv, rfl⟩, hB⟩
  have HB := Aside0.mk hB
  obtain ⟨A4, cc4, c4, hR4, hn4⟩ := hB.c4
  have c5 := hB.c5
  have f4 := hB.f4
  have f5 := hB.f5
  have HR4 := Aside0.mk hR4
  have HN4 := Aside0.mk hn4
  clear HR hR4 hn4 hB
  rw [HST.out] at c4 c5 HR4 HN4
  go_wp2
  go_region
  obtain ⟨W3, hW3⟩ : ∃ W3, ((w2.setCell ⟨w.heap.size + 1 + 1 + 1 + 1, 0, none⟩ (.slice A4 (optL st.1).length cc4)).setCell ⟨w.heap.size + 1 + 1 + 1 + 1 + 1, 0, none⟩ (.int .i64 st.2)) = W3 := ⟨_, rfl⟩
  have e5 : W3.cell? ⟨w.heap.size + 1 + 1 + 1 + 1 + 1, 0, none⟩ = some (.int .i64 st.2) := by
    rw [← hW3]; exact World.cell?_setCell_same' _ _ _ (by rw [World.cell?_setCell_far _ _ _ _ (by simp only [ne_eq]; omega), c5]; rfl)
  have e4 : W3.cell? ⟨w.heap.size + 1 + 1 + 1 + 1, 0, none⟩ = some (.slice A4 (optL st.1).length cc4) := by
    rw [← hW3, World.cell?_setCell_far _ _ _ _ (by simp only [ne_eq]; omega)]; exact World.cell?_setCell_same' _ _ _ (by rw [c4]; rfl)
  have HW : Aside0 (Below w.heap.size w W3) := ⟨by rw [← hW3]; exact ((HB.out.bl.setCell (p := ⟨w.heap.size + 1 + 1 + 1 + 1, 0, none⟩) (by simp only; omega) _).setCell (p := ⟨w.heap.size + 1 + 1 + 1 + 1 + 1, 0, none⟩) (by simp only; omega) _)⟩
  have HR5 : Aside0 (Kd.R (Kd.int .i64) 3 W3 w.heap.size (fun _ => True) (.slice A4 (optL st.1).length cc4) (optL st.1)) := ⟨by
    refine Kd.R_lower (Kd.R_mono (Kd.R_move (R_only HR4.out (ok' := fun k => w.heap.size + 10 ≤ k) (fun k hk => Kd.R_base HR4.out k hk)) (fun k hk => ?_)) (fun _ _ => trivial)) (Nat.le_add_right _ 10)
    rw [← hW3]
    exact (Below.heap_setCell _ _ _ _ (by simp only [ne_eq]; omega)).trans (Below.heap_setCell _ _ _ _ (by simp only [ne_eq]; omega))⟩
  rw [hW3]
  clear hW3 c4 c5 f4 f5 HR4 HB
  go_wp2
  refine bodyPost_ret (v := .tuple #[.slice A4 (optL st.1).length cc4, .int .i64 st.2]) (by simp [results, Try.results35, go_sem, e4, e5]) rfl ?_
  exact ⟨A4, cc4, rfl, Kd.R_drew HR5.out, HN4.out, below_drew HW.out⟩
end

end Go.Proofs.Ytdnjbjcfbdclfaa.P
namespace Go.Proofs.Ytdnjbjcfbdclfaa.P
open Go.RowKit Go.Proofs.YtdnjbjcfbdclfaaW.PrintWords Go.Proofs.YtdnjbjcfbdclfaaW.PrintLast Go.Proofs.YtdnjbjcfbdclfaaW.PrintMore
attribute [local go_sem] max2_int min2_int max_two min_two max_three min_three max_four min_four   -- for this text's walks alone
set_option linter.unusedVariables false
set_option linter.unusedSimpArgs false

/-! slices.Min and Max at ints, where there is an element -/
def minL : List Int → Int
  | [] => 0
  | x :: l => l.foldl min x
def maxL : List Int → Int
  | [] => 0
  | x :: l => l.foldl max x
def slices_Min_int_int.f (l0 : List Int) : Option Int := if l0.length < 1 then none else some (minL l0)
def slices_Max_int_int.f (l0 : List Int) : Option Int := if l0.length < 1 then none else some (maxL l0)
theorem minL_take {l : List Int} {k : Nat} (h : k < l.length) (h1 : 1 ≤ k) : min (minL (l.take k)) l[k] = minL (l.take (k + 1)) := by
  rw [List.take_succ_eq_append_getElem h]
  cases l with
  | nil => simp at h
  | cons x l =>
    obtain ⟨j, rfl⟩ : ∃ j, k = j + 1 := ⟨k - 1, by omega⟩
    simp only [List.take_succ_cons, List.cons_append, minL, List.foldl_append, List.foldl_cons, List.foldl_nil]
theorem maxL_take {l : List Int} {k : Nat} (h : k < l.length) (h1 : 1 ≤ k) : max (maxL (l.take k)) l[k] = maxL (l.take (k + 1)) := by
  rw [List.take_succ_eq_append_getElem h]
  cases l with
  | nil => simp at h
  | cons x l =>
    obtain ⟨j, rfl⟩ : ∃ j, k = j + 1 := ⟨k - 1, by omega⟩
    simp only [List.take_succ_cons, List.cons_append, maxL, List.foldl_append, List.foldl_cons, List.foldl_nil]
set_option maxHeartbeats 2000000 in
set_option maxRecDepth 100000 in
theorem slices_Min_int_int.calls (A0 : Option Addr) (c0 : Nat) (l0 : List Int) (r : Int) (w : World) (hr0 : Kd.C (Kd.int .i64) w A0 l0.length l0) (_ : l0.length ≤ c0) (h : slices_Min_int_int.f l0 = some r) :
    Calls Try.prog 50 #[.slice A0 l0.length c0] w fun e w' => e = .returned (.int .i64 r) ∧ Drawn0 w w' := by
  unfold slices_Min_int_int.f at h
  by_cases hc : l0.length < 1
  · rw [if_pos hc] at h; cases h
  · rw [if_neg hc] at h
    have hres := Option.some.inj h
    have hm : l0.length ≤ 9223372036854775807 := Kd.C_max hr0
    have HR := Aside0.mk hr0
    have HH := Aside0.mk hres
    have q1 : decide (l0.length < 1) = false := decide_eq_false hc
    have q2 : decide ((l0.length : Int) < 1) = false := decide_eq_false (by omega)
    have hpos : 0 < l0.length := by omega
    have hposz : (0 : Int) < (l0.length : Int) := by omega
    obtain ⟨ad, ead, hcell0⟩ := Kd.at_int hr0 0 (by omega) hposz
    have HE := Aside0.mk (show ∃ x l, l0 = x :: l ∧ rd l0 0 = x from by
      cases l0 with
      | nil => simp at hpos
      | cons x l => exact ⟨x, l, rfl, rfl⟩)
    obtain ⟨x, hx⟩ : ∃ x, rd l0 0 = x := ⟨_, rfl⟩
    rw [hx] at hcell0 HE
    have hcell1 : w.cell? ad = some (.int .i64 x) := by rw [← hcell0]; congr 1
    cases ead
    clear hr0 h hres hc hx hcell0
    go_enter Try.func50, Try.ntmps50
    go_wp2
    go_loopg [3, 4] l0.length (fun gg s3 s4 wr => ∃ (kk q : Nat) (v : Int), s4 = .int .i64 kk ∧ s3 = .int .i64 v ∧ wr = w.drewN q ∧ Aside0 (kk + gg = l0.length + 1) ∧ Aside0 (1 ≤ kk) ∧ Aside0 (v = minL (l0.take kk)))
    case atStart => exact ⟨1, _, x, rfl, rfl, by first | rfl | exact (World.drewN_zero _).symm | (apply Eq.symm; apply World.drewN_zero), ⟨by omega⟩, ⟨by omega⟩, ⟨by obtain ⟨y, l, h1, h2⟩ := HE.out; subst h1; subst h2; rfl⟩⟩
    case round =>
      obtain ⟨kk, q, v, rfl, rfl, rfl, HK, H1, HV⟩ := hrel
      by_cases hlt : kk < l0.length
      · have hltz : (kk : Int) < (l0.length : Int) := by omega
        obtain ⟨ad2, ead, hcellk⟩ := Kd.at_int HR.out (kk : Int) (by omega) hltz
        rw [rd_get hlt] at hcellk
        rw [Int.toNat_natCast] at hcellk
        cases ead
        generalize hy : l0[kk] = y at hcellk
        have Hy := Aside0.mk hy
        clear hy hcell1
        go_wp2
        all_goals
          go_roundg (gk - 1)
          case measure => have := HK.out; omega
          case rel =>
            refine ⟨kk + 1, q, min v y, by go_num, by first | rfl | (congr 1; omega), by first | rfl | simp, ⟨by have := HK.out; omega⟩, ⟨by omega⟩, ⟨?_⟩⟩
            rw [HV.out, ← Hy.out]
            exact minL_take hlt H1.out
      · have hltz : ¬ (kk : Int) < (l0.length : Int) := by omega
        clear hcell1
        go_wp2
        go_ret
        refine ⟨?_, ⟨_, rfl⟩⟩
        have h1 := HV.out
        rw [List.take_of_length_le (by omega), HH.out] at h1
        rw [h1]; first | rfl | simp
set_option maxHeartbeats 2000000 in
set_option maxRecDepth 100000 in
theorem slices_Max_int_int.calls (A0 : Option Addr) (c0 : Nat) (l0 : List Int) (r : Int) (w : World) (hr0 : Kd.C (Kd.int .i64) w A0 l0.length l0) (_ : l0.length ≤ c0) (h : slices_Max_int_int.f l0 = some r) :
    Calls Try.prog 51 #[.slice A0 l0.length c0] w fun e w' => e = .returned (.int .i64 r) ∧ Drawn0 w w' := by
  unfold slices_Max_int_int.f at h
  by_cases hc : l0.length < 1
  · rw [if_pos hc] at h; cases h
  · rw [if_neg hc] at h
    have hres := Option.some.inj h
    have hm : l0.length ≤ 9223372036854775807 := Kd.C_max hr0
    have HR := Aside0.mk hr0
    have HH := Aside0.mk hres
    have q1 : decide (l0.length < 1) = false := decide_eq_false hc
    have q2 : decide ((l0.length : Int) < 1) = false := decide_eq_false (by omega)
    have hpos : 0 < l0.length := by omega
    have hposz : (0 : Int) < (l0.length : Int) := by omega
    obtain ⟨ad, ead, hcell0⟩ := Kd.at_int hr0 0 (by omega) hposz
    have HE := Aside0.mk (show ∃ x l, l0 = x :: l ∧ rd l0 0 = x from by
      cases l0 with
      | nil => simp at hpos
      | cons x l => exact ⟨x, l, rfl, rfl⟩)
    obtain ⟨x, hx⟩ : ∃ x, rd l0 0 = x := ⟨_, rfl⟩
    rw [hx] at hcell0 HE
    have hcell1 : w.cell? ad = some (.int .i64 x) := by rw [← hcell0]; congr 1
    cases ead
    clear hr0 h hres hc hx hcell0
    go_enter Try.func51, Try.ntmps51
    go_wp2
    go_loopg [3, 4] l0.length (fun gg s3 s4 wr => ∃ (kk q : Nat) (v : Int), s4 = .int .i64 kk ∧ s3 = .int .i64 v ∧ wr = w.drewN q ∧ Aside0 (kk + gg = l0.length + 1) ∧ Aside0 (1 ≤ kk) ∧ Aside0 (v = maxL (l0.take kk)))
    case atStart => exact ⟨1, _, x, rfl, rfl, by first | rfl | exact (World.drewN_zero _).symm | (apply Eq.symm; apply World.drewN_zero), ⟨by omega⟩, ⟨by omega⟩, ⟨by obtain ⟨y, l, h1, h2⟩ := HE.out; subst h1; subst h2; rfl⟩⟩
    case round =>
      obtain ⟨kk, q, v, rfl, rfl, rfl, HK, H1, HV⟩ := hrel
      by_cases hlt : kk < l0.length
      · have hltz : (kk : Int) < (l0.length : Int) := by omega
        obtain ⟨ad2, ead, hcellk⟩ := Kd.at_int HR.out (kk : Int) (by omega) hltz
        rw [rd_get hlt] at hcellk
        rw [Int.toNat_natCast] at hcellk
        cases ead
        generalize hy : l0[kk] = y at hcellk
        have Hy := Aside0.mk hy
        clear hy hcell1
        go_wp2
        all_goals
          go_roundg (gk - 1)
          case measure => have := HK.out; omega
          case rel =>
            refine ⟨kk + 1, q, max v y, by go_num, by first | rfl | (congr 1; omega), by first | rfl | simp, ⟨by have := HK.out; omega⟩, ⟨by omega⟩, ⟨?_⟩⟩
            rw [HV.out, ← Hy.out]
            exact maxL_take hlt H1.out
      · have hltz : ¬ (kk : Int) < (l0.length : Int) := by omega
        clear hcell1
        go_wp2
        go_ret
        refine ⟨?_, ⟨_, rfl⟩⟩
        have h1 := HV.out
        rw [List.take_of_length_le (by omega), HH.out] at h1
        rw [h1]; first | rfl | simp

end Go.Proofs.Ytdnjbjcfbdclfaa.P
