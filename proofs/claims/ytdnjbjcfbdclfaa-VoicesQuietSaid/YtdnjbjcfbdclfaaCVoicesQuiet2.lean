/- A part of a proof that a law's Go function returns true for every input, laid by this session's program mp.py (which drives the kit's print). Conditions: as each theorem states them. -/
import Derived.StillTailTactics
import Derived.Laws.EntriesVeiled
import Derived.Shelf.Abstract
import Derived.RegionTactic
import Derived.ChangeAlike
import Derived.Test.YtdnjbjcfbdclfaaCVoicesQuiet1
namespace Go.Proofs.Ytdnjbjcfbdclfaa.P
open Go.RowKit Go.Proofs.YtdnjbjcfbdclfaaW.PrintWords Go.Proofs.YtdnjbjcfbdclfaaW.PrintLast Go.Proofs.YtdnjbjcfbdclfaaW.PrintMore
attribute [local go_sem] max2_int min2_int max_two min_two max_three min_three max_four min_four   -- for this text's walks alone
set_option linter.unusedVariables false
set_option linter.unusedSimpArgs false

/-! voices.best: the first leading with the least price among those that a function lets pass -/
def bstep (pr : List Nat → Int) (p : List Nat → Bool) (s : Option (List Nat) × Int) (l : List Nat) : Option (List Nat) × Int := if (s.1 = none ∨ pr l < s.2) ∧ p l = true then (some l, pr l) else s
def bfold (pr : List Nat → Int) (p : List Nat → Bool) (L : List (List Nat)) : Option (List Nat) × Int := L.foldl (bstep pr p) (none, 0)
theorem bfold_snoc (pr : List Nat → Int) (p : List Nat → Bool) (L : List (List Nat)) (l : List Nat) : bfold pr p (L ++ [l]) = bstep pr p (bfold pr p L) l := by unfold bfold; rw [List.foldl_append]; rfl
def optL (o : Option (List Nat)) : List Int := nums (o.getD [])
theorem R_only {e : Nat} {w : World} {base : Nat} {ok ok' : Nat → Prop} {v : Value} {xs : List Int} (h : Kd.R (Kd.int .i64) e w base ok v xs) (hok : ∀ k, v.ownBlock = some k → ok' k) : Kd.R (Kd.int .i64) e w base ok' v xs := by
  obtain ⟨_, inner, ho, hr⟩ := h
  exact ⟨hok, inner, ho, hr⟩
section
variable (w : World) (n : Int) (Aa : Option Addr) (ca : Nat) (a : List Int) (Ab : Option Addr) (cb : Nat) (b : List Int) (gis : Nat) (lbis : Array Value) (pr : List Nat → Int) (p : List Nat → Bool)
def PB (W : World) (i : Nat) : Prop := i < w.heap.size + 6 ∨ ∃ (A : Addr) (l c : Nat), W.cell? ⟨w.heap.size + 1 + 1 + 1 + 1, 0, none⟩ = some (.slice (some A) l c) ∧ A.block = i
structure BSt (s : List (List Nat)) (W : World) : Prop where
  bl : Below w.heap.size w W
  sz : w.heap.size + 6 ≤ W.heap.size
  c0 : W.cell? ⟨w.heap.size, 0, none⟩ = some (.int .i64 n)
  c1 : W.cell? ⟨w.heap.size + 1, 0, none⟩ = some (.slice Aa a.length ca)
  c2 : W.cell? ⟨w.heap.size + 1 + 1, 0, none⟩ = some (.slice Ab b.length cb)
  c3 : W.cell? ⟨w.heap.size + 1 + 1 + 1, 0, none⟩ = some (.func (.func gis) #[] lbis)
  c4 : ∃ A c, W.cell? ⟨w.heap.size + 1 + 1 + 1 + 1, 0, none⟩ = some (.slice A (optL (bfold pr p s).1).length c) ∧ Kd.R (Kd.int .i64) 3 W (w.heap.size + 10) (PB w W) (.slice A (optL (bfold pr p s).1).length c) (optL (bfold pr p s).1) ∧ A.isNone = (bfold pr p s).1.isNone
  c5 : W.cell? ⟨w.heap.size + 1 + 1 + 1 + 1 + 1, 0, none⟩ = some (.int .i64 (bfold pr p s).2)
  f4 : W.frozen? ⟨w.heap.size + 1 + 1 + 1 + 1, 0, none⟩ = false
  f5 : W.frozen? ⟨w.heap.size + 1 + 1 + 1 + 1 + 1, 0, none⟩ = false
theorem best_inter : Inter (w.heap.size + 6) (PB w) (BSt w n Aa ca a Ab cb b gis lbis pr p) := by
  refine ⟨fun s A B h hf => ?_, fun s A i h hp => ?_, fun s A i h h1 h2 hp => ?_⟩
  · have hc : ∀ i, i < w.heap.size + 6 → B.cell? ⟨i, 0, none⟩ = A.cell? ⟨i, 0, none⟩ := fun i hi => hf.cell (.inl hi) 0
    have hz : ∀ i, i < w.heap.size + 6 → B.frozen? ⟨i, 0, none⟩ = A.frozen? ⟨i, 0, none⟩ := fun i hi => hf.frozen (.inl hi) 0
    have hP : ∀ i, PB w B i ↔ PB w A i := fun i => by unfold PB; rw [hc _ (by omega)]
    obtain ⟨A4, c, h4, hR, hn⟩ := h.c4
    refine ⟨⟨h.bl.trans (hf.below (fun k hk => .inl (by omega))), Nat.le_trans h.sz hf.size, (hc _ (by omega)).trans h.c0, (hc _ (by omega)).trans h.c1, (hc _ (by omega)).trans h.c2, (hc _ (by omega)).trans h.c3, ⟨A4, c, (hc _ (by omega)).trans h4, ?_, hn⟩, (hc _ (by omega)).trans h.c5, (hz _ (by omega)).trans h.f4, (hz _ (by omega)).trans h.f5⟩, hP⟩
    exact Kd.R_mono (Kd.R_move hR (fun k hk => hf.block k hk)) (fun i hi => (hP i).2 hi)
  · have h1 := h.sz
    rcases hp with hp | ⟨A0, l, c, h4, rfl⟩
    · omega
    · obtain ⟨A4, c4, h4', hR, _⟩ := h.c4
      rw [h4] at h4'
      injection h4' with h4'
      injection h4' with e1 e2 e3
      subst e1
      exact Kd.R_lt hR _ rfl
  · rcases hp with hp | ⟨A0, l, c, h4, rfl⟩
    · omega
    · obtain ⟨A4, c4, h4', hR, _⟩ := h.c4
      rw [h4] at h4'
      injection h4' with h4'
      injection h4' with e1 e2 e3
      subst e1
      have := Kd.R_base hR _ rfl
      omega
/-- what the function that lets pass answers -/
def GivesIs (k : Nat) : Prop := ∀ (x : List Nat) (A : Option Addr) (c : Nat) (W : World), x.length = k → (∀ y ∈ x, y < k) → (nums x).length ≤ c → Kd.C (Kd.int .i64) W A (nums x).length (nums x) → Below w.heap.size w W →
  Calls Try.prog gis (#[.slice A (nums x).length c] ++ lbis) W fun e W' => e = .returned (.bool (p x)) ∧ Below W.heap.size W W'
def MoreLb : Array Value := #[.pointer (some ⟨w.heap.size, 0, none⟩), .pointer (some ⟨w.heap.size + 1, 0, none⟩), .pointer (some ⟨w.heap.size + 1 + 1, 0, none⟩), .pointer (some ⟨w.heap.size + 1 + 1 + 1 + 1, 0, none⟩), .pointer (some ⟨w.heap.size + 1 + 1 + 1 + 1 + 1, 0, none⟩), .pointer (some ⟨w.heap.size + 1 + 1 + 1, 0, none⟩)]
theorem clone_f (x : List Nat) (h : x.length ≤ 1000) : slices_Clone_int_int.f (nums x) = some (nums x) := by unfold slices_Clone_int_int.f; rw [if_pos (by rw [nums_length]; omega)]
/-- nothing new is kept -/
theorem BSt.same {s : List (List Nat)} {x : List Nat} {W W' : World} (h : BSt w n Aa ca a Ab cb b gis lbis pr p s W) (hb : Below W.heap.size W W') (he : bstep pr p (bfold pr p s) x = bfold pr p s) :
    BSt w n Aa ca a Ab cb b gis lbis pr p (s ++ [x]) W' ∧ Fr (fun i => w.heap.size + 6 ≤ i ∧ i < W.heap.size) W W' ∧ (∀ i, PB w W' i → PB w W i ∨ W.heap.size ≤ i) := by
  have hI := best_inter w n Aa ca a Ab cb b gis lbis pr p
  have hk := hI.keep s W W' h (Fr.of_below hb (fun k hk => hI.lt s W k h hk))
  have e : bfold pr p (s ++ [x]) = bfold pr p s := by rw [bfold_snoc, he]
  refine ⟨?_, Fr.of_below hb (fun k hk => hk.2), fun i hi => .inl ((hk.2 i).1 hi)⟩
  obtain ⟨h1, h2, h3, h4, h5, h6, h7, h8, h9, h10⟩ := hk.1
  exact ⟨h1, h2, h3, h4, h5, h6, by rw [e]; exact h7, by rw [e]; exact h8, h9, h10⟩
/-- the new leading is kept -/
theorem BSt.put {s : List (List Nat)} {x : List Nat} {W w2 w3 : World} {A : Option Addr} {c : Nat} (h : BSt w n Aa ca a Ab cb b gis lbis pr p s W) (hb : Below W.heap.size W w2) (hb2 : Below w2.heap.size w2 w3)
    (hR : Kd.R (Kd.int .i64) 3 w3 w2.heap.size (fun _ => True) (.slice A (nums x).length c) (nums x)) (hx : 1 ≤ x.length) (hsz : w.heap.size + 10 ≤ W.heap.size) (he : bstep pr p (bfold pr p s) x = (some x, pr x)) :
    BSt w n Aa ca a Ab cb b gis lbis pr p (s ++ [x]) ((w3.setCell ⟨w.heap.size + 1 + 1 + 1 + 1, 0, none⟩ (.slice A (nums x).length c)).setCell ⟨w.heap.size + 1 + 1 + 1 + 1 + 1, 0, none⟩ (.int .i64 (pr x))) ∧
      Fr (fun i => w.heap.size + 6 ≤ i ∧ i < W.heap.size) W ((w3.setCell ⟨w.heap.size + 1 + 1 + 1 + 1, 0, none⟩ (.slice A (nums x).length c)).setCell ⟨w.heap.size + 1 + 1 + 1 + 1 + 1, 0, none⟩ (.int .i64 (pr x))) ∧
      (∀ i, PB w ((w3.setCell ⟨w.heap.size + 1 + 1 + 1 + 1, 0, none⟩ (.slice A (nums x).length c)).setCell ⟨w.heap.size + 1 + 1 + 1 + 1 + 1, 0, none⟩ (.int .i64 (pr x))) i → PB w W i ∨ W.heap.size ≤ i) := by
  have hb3 : Below W.heap.size W w3 := hb.trans (hb2.mono hb.size)
  have hA : ∃ ad, A = some ad := by
    obtain ⟨ad, e, _⟩ := Kd.at_int (Kd.R_reads' hR).2.2 0 (by omega) (by rw [nums_length]; omega)
    exact ⟨ad, e⟩
  obtain ⟨ad, rfl⟩ := hA
  have hbase : w2.heap.size ≤ ad.block := Kd.R_base hR _ rfl
  have hlt : ad.block < w3.heap.size := Kd.R_lt hR _ rfl
  have hs2 := hb.size
  have hs3 := hb2.size
  obtain ⟨W', hW'⟩ : ∃ W', (w3.setCell ⟨w.heap.size + 1 + 1 + 1 + 1, 0, none⟩ (.slice (some ad) (nums x).length c)).setCell ⟨w.heap.size + 1 + 1 + 1 + 1 + 1, 0, none⟩ (.int .i64 (pr x)) = W' := ⟨_, rfl⟩
  have hblk : ∀ i, i ≠ w.heap.size + 4 → i ≠ w.heap.size + 5 → W'.heap[i]? = w3.heap[i]? := fun i h1 h2 => by
    rw [← hW']
    exact (Below.heap_setCell _ _ _ _ (by simp only [ne_eq]; omega)).trans (Below.heap_setCell _ _ _ _ (by simp only [ne_eq]; omega))
  have hc3 : ∀ i, i < w.heap.size + 6 → w3.cell? ⟨i, 0, none⟩ = W.cell? ⟨i, 0, none⟩ := fun i hi => hb3.cell (p := ⟨i, 0, none⟩) (by simp only; omega)
  have hcell : ∀ i, i < w.heap.size + 4 → W'.cell? ⟨i, 0, none⟩ = W.cell? ⟨i, 0, none⟩ := fun i hi => (by unfold World.cell?; simp only [hblk i (by omega) (by omega)] : W'.cell? ⟨i, 0, none⟩ = w3.cell? ⟨i, 0, none⟩).trans (hc3 i (by omega))
  have h4o : (w3.cell? ⟨w.heap.size + 1 + 1 + 1 + 1, 0, none⟩).isSome = true := by
    rw [hc3 _ (by omega)]; obtain ⟨A, c, h4, _⟩ := h.c4; rw [h4]; rfl
  have h5o : (w3.cell? ⟨w.heap.size + 1 + 1 + 1 + 1 + 1, 0, none⟩).isSome = true := by rw [hc3 _ (by omega), h.c5]; rfl
  have n4 : W'.cell? ⟨w.heap.size + 1 + 1 + 1 + 1, 0, none⟩ = some (.slice (some ad) (nums x).length c) := by
    rw [← hW']
    exact (World.cell?_setCell_far _ _ _ _ (by simp only [ne_eq]; omega)).trans (World.cell?_setCell_same' _ _ _ h4o)
  have n5 : W'.cell? ⟨w.heap.size + 1 + 1 + 1 + 1 + 1, 0, none⟩ = some (.int .i64 (pr x)) := by
    rw [← hW']
    exact World.cell?_setCell_same' _ _ _ (by rw [World.cell?_setCell_far _ _ _ _ (by simp only [ne_eq]; omega)]; exact h5o)
  have hfz : ∀ i, i < w.heap.size + 6 → W'.frozen? ⟨i, 0, none⟩ = W.frozen? ⟨i, 0, none⟩ := fun i hi => by
    rw [← hW', World.frozen?_setCell, World.frozen?_setCell]
    exact hb3.frozen (p := ⟨i, 0, none⟩) (by simp only; omega)
  have hsz' : W'.heap.size = w3.heap.size := by rw [← hW']; simp [World.setCell]
  have hP : ∀ i, PB w W' i ↔ (i < w.heap.size + 6 ∨ ad.block = i) := fun i => by
    unfold PB
    rw [n4]
    constructor
    · rintro (h | ⟨A0, l0, c0, e, rfl⟩)
      · exact .inl h
      · injection e with e; injection e with e; injection e with e; exact .inr (by rw [e])
    · rintro (h | rfl)
      · exact .inl h
      · exact .inr ⟨ad, _, _, rfl, rfl⟩
  have hfr : Fr (fun i => w.heap.size + 6 ≤ i ∧ i < W.heap.size) W W' := by
    refine (Fr.of_below hb3 (fun k hk => hk.2)).trans ?_
    rw [← hW']
    exact (Fr.setCell _ _ (by simp only; omega)).trans (Fr.setCell _ _ (by simp only; omega))
  have hbw : Below w.heap.size w W' := by
    rw [← hW']
    exact (((h.bl.trans (hb3.mono h.bl.size)).setCell (p := ⟨w.heap.size + 1 + 1 + 1 + 1, 0, none⟩) (by simp only; omega) _).setCell (p := ⟨w.heap.size + 1 + 1 + 1 + 1 + 1, 0, none⟩) (by simp only; omega) _)
  have e : bfold pr p (s ++ [x]) = (some x, pr x) := by rw [bfold_snoc, he]
  rw [hW']
  refine ⟨⟨hbw, by omega, (hcell _ (by omega)).trans h.c0, (hcell _ (by omega)).trans h.c1, (hcell _ (by omega)).trans h.c2, (hcell _ (by omega)).trans h.c3, ⟨some ad, c, by rw [e]; exact n4, ?_, by rw [e]; rfl⟩, by rw [e]; exact n5, (hfz _ (by omega)).trans h.f4, (hfz _ (by omega)).trans h.f5⟩, hfr, fun i hi => ?_⟩
  · rw [e]
    have h1 := Kd.R_move (w1 := W') (R_only hR (ok' := fun k => k = ad.block) (fun k hk => by simpa [Value.ownBlock] using hk.symm)) (fun k hk => hblk k (by omega) (by omega))
    exact Kd.R_lower (Kd.R_mono h1 (fun k hk => (hP k).2 (.inr hk.symm))) (by omega)
  · rcases (hP i).1 hi with h1 | rfl
    · exact .inl (.inl h1)
    · exact .inr (by omega)
theorem C_below_ {A : Option Addr} {m : Nat} {xs : List Int} {W W' : World} (h : Kd.C (Kd.int .i64) W A m xs) (hb : Below W.heap.size W W') : Kd.C (Kd.int .i64) W' A m xs := Kd.C_below h hb
set_option maxHeartbeats 8000000 in
set_option maxRecDepth 100000 in
theorem best_more (egis : ∀ args w, (callFunc gis args).run Try.prog w = .ok (.enter gis args) w) (k : Nat) (hk1 : 1 ≤ k) (hk2 : k ≤ 20) (hp : GivesIs w gis lbis p k) (hpr : ∀ x : List Nat, x.length = k → (∀ y ∈ x, y < k) → ∃ kk, voices_circle_price.f kk n a b (nums x) = some (pr x)) (hra : Kd.C (Kd.int .i64) w Aa a.length a) (hca : a.length ≤ ca) (hrb : Kd.C (Kd.int .i64) w Ab b.length b) (hcb : b.length ≤ cb) :
    MoreCalls (w.heap.size + 6) k 53 (MoreLb w) (PB w) (BSt w n Aa ca a Ab cb b gis lbis pr p) := by
  intro pre x A c W hJ hx hxl hc hC hA
  obtain ⟨kk, hkk⟩ := hpr x hx hxl
  have HX1 := Aside0.mk (show 1 ≤ x.length by omega)
  have HSZ : Aside0 (w.heap.size + 10 ≤ W.heap.size) := ⟨by
    obtain ⟨ad, e, hcell⟩ := Kd.at_int hC 0 (by omega) (by rw [nums_length]; omega)
    have h1 := hA ad e
    have h2 := World.block_lt_of_cell? W _ hcell
    have h3 : (ad.add (0 : Int).toNat).block = ad.block := rfl
    rw [h3] at h2
    omega⟩
  have HBS := Aside0.mk hJ
  have HCF := Aside0.mk (clone_f x (by omega))
  have HKC := Aside0.mk hC
  have HCC := Aside0.mk hc
  have HPR := Aside0.mk (voices_circle_price.calls kk n Aa ca a Ab cb b A c (nums x) (pr x) W (Kd.C_below hra hJ.bl) hca (Kd.C_below hrb hJ.bl) hcb hC hc hkk)
  have HIS := Aside0.mk (fun (w1 : World) (hb : Below W.heap.size W w1) => hp x A c w1 hx hxl hc (Kd.C_below hC hb) (hJ.bl.trans (hb.mono hJ.bl.size)))
  have c0 := hJ.c0
  have c1 := hJ.c1
  have c2 := hJ.c2
  have c3 := hJ.c3
  have c5 := hJ.c5
  obtain ⟨A4, cc4, c4, -, hn4⟩ := hJ.c4
  have q22 : ∀ (w : World) (a : Option Addr) (n c n' c' : Nat), (binOp .eql 22 (.slice a n c) (.slice none n' c')).run Try.prog w = .ok (.bool a.isNone) w := fun w a n c n' c' => Lib.run_eql_slice_nil w _ _ a n c n' c' Try.underlying22
  generalize hL4 : (optL (bfold pr p pre).1).length = l4 at c4
  clear hL4
  have HN4 := Aside0.mk hn4
  have hsz6 := hJ.sz
  have HSW := Aside0.mk hJ.bl.size
  have hszW : w.heap.size + 10 ≤ W.heap.size := HSZ.out
  generalize hs2 : (bfold pr p pre).2 = s2 at c5
  have HS2 := Aside0.mk hs2
  clear hs2 hn4 hJ hC hA hkk hpr hp hx hxl hra hrb
  generalize hnx : (nums x).length = lx at *
  have HNX := Aside0.mk hnx
  clear hnx
  obtain ⟨px, hpx⟩ : ∃ px, p x = px := ⟨_, rfl⟩
  have HPX := Aside0.mk hpx
  rw [hpx] at HIS
  clear hpx
  obtain ⟨cx, hcx⟩ : ∃ cx, pr x = cx := ⟨_, rfl⟩
  have HCX := Aside0.mk hcx
  rw [hcx] at HPR
  clear hcx
  unfold MoreLb
  cases hs1 : (bfold pr p pre).1 with
  | none =>
    rw [hs1] at HN4
    have hA4 : A4 = none := by have := HN4.out; cases A4 with
      | none => rfl
      | some _ => cases this
    subst hA4
    have HS1 := Aside0.mk hs1
    clear hs1 HN4
    cases px with
    | true =>
      have H4 := Aside0.mk c4
      have H5 := Aside0.mk c5
      have HE : Aside0 (bstep pr p (bfold pr p pre) x = (some x, pr x)) := ⟨by unfold bstep; rw [if_pos ⟨.inl HS1.out, HPX.out⟩]⟩
      go_enter Try.func53, Try.ntmps53
      go_wp2_with fail
      refine HPR.out.mono ?_
      rintro e w1 ⟨rfl, hb1⟩
      have d3 : w1.cell? ⟨w.heap.size + 1 + 1 + 1, 0, none⟩ = some (.func (.func gis) #[] lbis) := (hb1.cell (p := ⟨w.heap.size + 1 + 1 + 1, 0, none⟩) (by simp only; omega)).trans c3
      have d4 : w1.cell? ⟨w.heap.size + 1 + 1 + 1 + 1, 0, none⟩ = some (.slice none l4 cc4) := (hb1.cell (p := ⟨w.heap.size + 1 + 1 + 1 + 1, 0, none⟩) (by simp only; omega)).trans c4
      have d5 : w1.cell? ⟨w.heap.size + 1 + 1 + 1 + 1 + 1, 0, none⟩ = some (.int .i64 s2) := (hb1.cell (p := ⟨w.heap.size + 1 + 1 + 1 + 1 + 1, 0, none⟩) (by simp only; omega)).trans c5
      have HB1 := Aside0.mk hb1
      clear hb1 c0 c1 c2 c3 c4 c5
      go_wp2_with fail
      refine (HIS.out w1 HB1.out).mono ?_
      rintro e w2 ⟨rfl, hb2⟩
      have HB2 := Aside0.mk (HB1.out.trans (hb2.mono HB1.out.size))
      clear hb2
      have HCL := slices_Clone_int_int.calls A c (nums x) (nums x) w2 (HNX.out.symm ▸ C_below_ HKC.out HB2.out) (HNX.out.symm ▸ HCC.out) HCF.out
      rw [HNX.out] at HCL
      have HCL2 := Aside0.mk HCL
      clear HCL d3 d4 d5
      go_wp2_with fail
      refine HCL2.out.mono ?_
      rintro e w3 ⟨v0, rfl, hr3, hb3⟩
      obtain ⟨A9, c9, e9⟩ := Kd.R_slice hr3
      rw [HNX.out] at e9
      subst e9
      have hsw2 := HB2.out.size
      have k4 : w3.cell? ⟨w.heap.size + 1 + 1 + 1 + 1, 0, none⟩ = some (.slice none l4 cc4) := (hb3.cell (p := ⟨w.heap.size + 1 + 1 + 1 + 1, 0, none⟩) (by simp only; omega)).trans ((HB2.out.cell (p := ⟨w.heap.size + 1 + 1 + 1 + 1, 0, none⟩) (by simp only; omega)).trans H4.out)
      have k5 : w3.cell? ⟨w.heap.size + 1 + 1 + 1 + 1 + 1, 0, none⟩ = some (.int .i64 s2) := (hb3.cell (p := ⟨w.heap.size + 1 + 1 + 1 + 1 + 1, 0, none⟩) (by simp only; omega)).trans ((HB2.out.cell (p := ⟨w.heap.size + 1 + 1 + 1 + 1 + 1, 0, none⟩) (by simp only; omega)).trans H5.out)
      have z4 : w3.frozen? ⟨w.heap.size + 1 + 1 + 1 + 1, 0, none⟩ = false := (hb3.frozen (p := ⟨w.heap.size + 1 + 1 + 1 + 1, 0, none⟩) (by simp only; omega)).trans ((HB2.out.frozen (p := ⟨w.heap.size + 1 + 1 + 1 + 1, 0, none⟩) (by simp only; omega)).trans HBS.out.f4)
      have z5 : w3.frozen? ⟨w.heap.size + 1 + 1 + 1 + 1 + 1, 0, none⟩ = false := (hb3.frozen (p := ⟨w.heap.size + 1 + 1 + 1 + 1 + 1, 0, none⟩) (by simp only; omega)).trans ((HB2.out.frozen (p := ⟨w.heap.size + 1 + 1 + 1 + 1 + 1, 0, none⟩) (by simp only; omega)).trans HBS.out.f5)
      have HR3 := Aside0.mk hr3
      have HB3 := Aside0.mk hb3
      clear hr3 hb3
      go_wp2
      go_ret
      have hr := HR3.out
      rw [← HNX.out] at hr ⊢
      have hput := HBS.out.put w n Aa ca a Ab cb b gis lbis pr p HB2.out HB3.out hr HX1.out HSZ.out HE.out
      rw [HCX.out] at hput
      exact ⟨rfl, hput⟩
    | false =>
      have HE : Aside0 (bstep pr p (bfold pr p pre) x = bfold pr p pre) := ⟨by unfold bstep; rw [if_neg (fun h => by have := HPX.out; rw [h.2] at this; cases this)]⟩
      go_enter Try.func53, Try.ntmps53
      go_wp2_with fail
      refine HPR.out.mono ?_
      rintro e w1 ⟨rfl, hb1⟩
      have d3 : w1.cell? ⟨w.heap.size + 1 + 1 + 1, 0, none⟩ = some (.func (.func gis) #[] lbis) := (hb1.cell (p := ⟨w.heap.size + 1 + 1 + 1, 0, none⟩) (by simp only; omega)).trans c3
      have d4 : w1.cell? ⟨w.heap.size + 1 + 1 + 1 + 1, 0, none⟩ = some (.slice none l4 cc4) := (hb1.cell (p := ⟨w.heap.size + 1 + 1 + 1 + 1, 0, none⟩) (by simp only; omega)).trans c4
      have d5 : w1.cell? ⟨w.heap.size + 1 + 1 + 1 + 1 + 1, 0, none⟩ = some (.int .i64 s2) := (hb1.cell (p := ⟨w.heap.size + 1 + 1 + 1 + 1 + 1, 0, none⟩) (by simp only; omega)).trans c5
      have HB1 := Aside0.mk hb1
      clear hb1 c0 c1 c2 c3 c4 c5
      go_wp2_with fail
      refine (HIS.out w1 HB1.out).mono ?_
      rintro e w2 ⟨rfl, hb2⟩
      have HB2 := Aside0.mk (HB1.out.trans (hb2.mono HB1.out.size))
      clear hb2
      go_wp2
      go_ret
      exact ⟨rfl, HBS.out.same w n Aa ca a Ab cb b gis lbis pr p HB2.out HE.out⟩
  | some y =>
    rw [hs1] at HN4
    obtain ⟨ad4, hA4⟩ : ∃ ad4, A4 = some ad4 := by have := HN4.out; cases A4 with
      | none => cases this
      | some ad4 => exact ⟨ad4, rfl⟩
    subst hA4
    have HS1 := Aside0.mk (show (bfold pr p pre).1 ≠ none by rw [hs1]; simp)
    clear hs1 HN4
    by_cases hlt : cx < s2
    · have q1 : decide (cx < s2) = true := decide_eq_true hlt
      have HLT := Aside0.mk hlt
      clear hlt
      cases px with
      | true =>
        have H4 := Aside0.mk c4
        have H5 := Aside0.mk c5
        have HE : Aside0 (bstep pr p (bfold pr p pre) x = (some x, pr x)) := ⟨by unfold bstep; rw [if_pos ⟨.inr (by rw [HCX.out, HS2.out]; exact HLT.out), HPX.out⟩]⟩
        go_enter Try.func53, Try.ntmps53
        go_wp2_with fail
        refine HPR.out.mono ?_
        rintro e w1 ⟨rfl, hb1⟩
        have d3 : w1.cell? ⟨w.heap.size + 1 + 1 + 1, 0, none⟩ = some (.func (.func gis) #[] lbis) := (hb1.cell (p := ⟨w.heap.size + 1 + 1 + 1, 0, none⟩) (by simp only; omega)).trans c3
        have d4 : w1.cell? ⟨w.heap.size + 1 + 1 + 1 + 1, 0, none⟩ = some (.slice (some ad4) l4 cc4) := (hb1.cell (p := ⟨w.heap.size + 1 + 1 + 1 + 1, 0, none⟩) (by simp only; omega)).trans c4
        have d5 : w1.cell? ⟨w.heap.size + 1 + 1 + 1 + 1 + 1, 0, none⟩ = some (.int .i64 s2) := (hb1.cell (p := ⟨w.heap.size + 1 + 1 + 1 + 1 + 1, 0, none⟩) (by simp only; omega)).trans c5
        have HB1 := Aside0.mk hb1
        clear hb1 c0 c1 c2 c3 c4 c5
        go_wp2_with fail
        refine (HIS.out w1 HB1.out).mono ?_
        rintro e w2 ⟨rfl, hb2⟩
        have HB2 := Aside0.mk (HB1.out.trans (hb2.mono HB1.out.size))
        clear hb2
        have HCL := slices_Clone_int_int.calls A c (nums x) (nums x) w2 (HNX.out.symm ▸ C_below_ HKC.out HB2.out) (HNX.out.symm ▸ HCC.out) HCF.out
        rw [HNX.out] at HCL
        have HCL2 := Aside0.mk HCL
        clear HCL d3 d4 d5
        go_wp2_with fail
        refine HCL2.out.mono ?_
        rintro e w3 ⟨v0, rfl, hr3, hb3⟩
        obtain ⟨A9, c9, e9⟩ := Kd.R_slice hr3
        rw [HNX.out] at e9
        subst e9
        have hsw2 := HB2.out.size
        have k4 : w3.cell? ⟨w.heap.size + 1 + 1 + 1 + 1, 0, none⟩ = some (.slice (some ad4) l4 cc4) := (hb3.cell (p := ⟨w.heap.size + 1 + 1 + 1 + 1, 0, none⟩) (by simp only; omega)).trans ((HB2.out.cell (p := ⟨w.heap.size + 1 + 1 + 1 + 1, 0, none⟩) (by simp only; omega)).trans H4.out)
        have k5 : w3.cell? ⟨w.heap.size + 1 + 1 + 1 + 1 + 1, 0, none⟩ = some (.int .i64 s2) := (hb3.cell (p := ⟨w.heap.size + 1 + 1 + 1 + 1 + 1, 0, none⟩) (by simp only; omega)).trans ((HB2.out.cell (p := ⟨w.heap.size + 1 + 1 + 1 + 1 + 1, 0, none⟩) (by simp only; omega)).trans H5.out)
        have z4 : w3.frozen? ⟨w.heap.size + 1 + 1 + 1 + 1, 0, none⟩ = false := (hb3.frozen (p := ⟨w.heap.size + 1 + 1 + 1 + 1, 0, none⟩) (by simp only; omega)).trans ((HB2.out.frozen (p := ⟨w.heap.size + 1 + 1 + 1 + 1, 0, none⟩) (by simp only; omega)).trans HBS.out.f4)
        have z5 : w3.frozen? ⟨w.heap.size + 1 + 1 + 1 + 1 + 1, 0, none⟩ = false := (hb3.frozen (p := ⟨w.heap.size + 1 + 1 + 1 + 1 + 1, 0, none⟩) (by simp only; omega)).trans ((HB2.out.frozen (p := ⟨w.heap.size + 1 + 1 + 1 + 1 + 1, 0, none⟩) (by simp only; omega)).trans HBS.out.f5)
        have HR3 := Aside0.mk hr3
        have HB3 := Aside0.mk hb3
        clear hr3 hb3
        go_wp2
        go_ret
        have hr := HR3.out
        rw [← HNX.out] at hr ⊢
        have hput := HBS.out.put w n Aa ca a Ab cb b gis lbis pr p HB2.out HB3.out hr HX1.out HSZ.out HE.out
        rw [HCX.out] at hput
        exact ⟨rfl, hput⟩
      | false =>
        have HE : Aside0 (bstep pr p (bfold pr p pre) x = bfold pr p pre) := ⟨by unfold bstep; rw [if_neg (fun h => by have := HPX.out; rw [h.2] at this; cases this)]⟩
        go_enter Try.func53, Try.ntmps53
        go_wp2_with fail
        refine HPR.out.mono ?_
        rintro e w1 ⟨rfl, hb1⟩
        have d3 : w1.cell? ⟨w.heap.size + 1 + 1 + 1, 0, none⟩ = some (.func (.func gis) #[] lbis) := (hb1.cell (p := ⟨w.heap.size + 1 + 1 + 1, 0, none⟩) (by simp only; omega)).trans c3
        have d4 : w1.cell? ⟨w.heap.size + 1 + 1 + 1 + 1, 0, none⟩ = some (.slice (some ad4) l4 cc4) := (hb1.cell (p := ⟨w.heap.size + 1 + 1 + 1 + 1, 0, none⟩) (by simp only; omega)).trans c4
        have d5 : w1.cell? ⟨w.heap.size + 1 + 1 + 1 + 1 + 1, 0, none⟩ = some (.int .i64 s2) := (hb1.cell (p := ⟨w.heap.size + 1 + 1 + 1 + 1 + 1, 0, none⟩) (by simp only; omega)).trans c5
        have HB1 := Aside0.mk hb1
        clear hb1 c0 c1 c2 c3 c4 c5
        go_wp2_with fail
        refine (HIS.out w1 HB1.out).mono ?_
        rintro e w2 ⟨rfl, hb2⟩
        have HB2 := Aside0.mk (HB1.out.trans (hb2.mono HB1.out.size))
        clear hb2
        go_wp2
        go_ret
        exact ⟨rfl, HBS.out.same w n Aa ca a Ab cb b gis lbis pr p HB2.out HE.out⟩
    · have q1 : decide (cx < s2) = false := decide_eq_false hlt
      have HE : Aside0 (bstep pr p (bfold pr p pre) x = bfold pr p pre) := ⟨by unfold bstep; rw [if_neg (fun h => by
            rcases h.1 with h1 | h1
            · exact HS1.out h1
            · rw [HCX.out, HS2.out] at h1; exact hlt h1)]⟩
      clear hlt
      go_enter Try.func53, Try.ntmps53
      go_wp2_with fail
      refine HPR.out.mono ?_
      rintro e w1 ⟨rfl, hb1⟩
      have d3 : w1.cell? ⟨w.heap.size + 1 + 1 + 1, 0, none⟩ = some (.func (.func gis) #[] lbis) := (hb1.cell (p := ⟨w.heap.size + 1 + 1 + 1, 0, none⟩) (by simp only; omega)).trans c3
      have d4 : w1.cell? ⟨w.heap.size + 1 + 1 + 1 + 1, 0, none⟩ = some (.slice (some ad4) l4 cc4) := (hb1.cell (p := ⟨w.heap.size + 1 + 1 + 1 + 1, 0, none⟩) (by simp only; omega)).trans c4
      have d5 : w1.cell? ⟨w.heap.size + 1 + 1 + 1 + 1 + 1, 0, none⟩ = some (.int .i64 s2) := (hb1.cell (p := ⟨w.heap.size + 1 + 1 + 1 + 1 + 1, 0, none⟩) (by simp only; omega)).trans c5
      have HB1 := Aside0.mk hb1
      clear hb1 c0 c1 c2 c3 c4 c5
      go_wp2
      go_ret
      exact ⟨rfl, HBS.out.same w n Aa ca a Ab cb b gis lbis pr p HB1.out HE.out⟩
-- ways end
end

end Go.Proofs.Ytdnjbjcfbdclfaa.P
namespace Go.Proofs.Ytdnjbjcfbdclfaa.P
open Go.RowKit Go.Proofs.YtdnjbjcfbdclfaaW.PrintWords Go.Proofs.YtdnjbjcfbdclfaaW.PrintLast Go.Proofs.YtdnjbjcfbdclfaaW.PrintMore
attribute [local go_sem] max2_int min2_int max_two min_two max_three min_three max_four min_four   -- for this text's walks alone
set_option linter.unusedVariables false
set_option linter.unusedSimpArgs false

def BestPost (w : World) (o : Option (List Nat)) (c : Int) (e : Ending) (w' : World) : Prop := ∃ A cc, e = .returned (.tuple #[.slice A (optL o).length cc, .int .i64 c]) ∧ Kd.R (Kd.int .i64) 3 w' w.heap.size (fun _ => True) (.slice A (optL o).length cc) (optL o) ∧ A.isNone = o.isNone ∧ Below w.heap.size w w'
theorem six_new (w : World) (v0 v1 v2 v3 v4 v5 : Value) (t0 t1 t2 t3 t4 t5 : TypeId) (W0 : World) (h : (((((w.alloc (.cells #[v0] t0)).alloc (.cells #[v1] t1)).alloc (.cells #[v2] t2)).alloc (.cells #[v3] t3)).alloc (.cells #[v4] t4)).alloc (.cells #[v5] t5) = W0) :
    W0.cell? ⟨w.heap.size, 0, none⟩ = some v0 ∧ W0.cell? ⟨w.heap.size + 1, 0, none⟩ = some v1 ∧ W0.cell? ⟨w.heap.size + 1 + 1, 0, none⟩ = some v2 ∧ W0.cell? ⟨w.heap.size + 1 + 1 + 1, 0, none⟩ = some v3 ∧ W0.cell? ⟨w.heap.size + 1 + 1 + 1 + 1, 0, none⟩ = some v4 ∧ W0.cell? ⟨w.heap.size + 1 + 1 + 1 + 1 + 1, 0, none⟩ = some v5 ∧
      W0.frozen? ⟨w.heap.size + 1 + 1 + 1 + 1, 0, none⟩ = false ∧ W0.frozen? ⟨w.heap.size + 1 + 1 + 1 + 1 + 1, 0, none⟩ = false ∧ W0.heap.size = w.heap.size + 6 ∧ Below w.heap.size w W0 := by
  obtain ⟨W4, h4⟩ : ∃ W4, (((w.alloc (.cells #[v0] t0)).alloc (.cells #[v1] t1)).alloc (.cells #[v2] t2)).alloc (.cells #[v3] t3) = W4 := ⟨_, rfl⟩
  rw [h4] at h
  obtain ⟨c0, c1, c2, c3, _, _, z4, B4⟩ := four_new w v0 v1 v2 v3 t0 t1 t2 t3 _ rfl W4 h4
  subst h
  have a4 := new_cell W4 v4 t4
  have a5 := new_cell (W4.alloc (.cells #[v4] t4)) v5 t5
  simp only [World.size_alloc, z4] at a4 a5
  refine ⟨old_cell _ (old_cell _ c0), old_cell _ (old_cell _ c1), old_cell _ (old_cell _ c2), old_cell _ (old_cell _ c3), old_cell _ a4.1, a5.1, old_frozen _ a4.1 a4.2, a5.2, by simp [World.size_alloc, z4], below_alloc (below_alloc B4 _) _⟩
section
variable (w : World) (n : Int) (Aa : Option Addr) (ca : Nat) (a : List Int) (Ab : Option Addr) (cb : Nat) (b : List Int) (gis : Nat) (lbis : Array Value) (pr : List Nat → Int) (p : List Nat → Bool)
set_option maxHeartbeats 8000000 in
set_option maxRecDepth 100000 in
theorem best_calls (egis : ∀ args w, (callFunc gis args).run Try.prog w = .ok (.enter gis args) w) (k : Nat) (hka : a.length = k) (hk1 : 1 ≤ k) (hk2 : k ≤ 20) (hp : GivesIs w gis lbis p k) (hpr : ∀ x : List Nat, x.length = k → (∀ y ∈ x, y < k) → ∃ kk, voices_circle_price.f kk n a b (nums x) = some (pr x)) (hra : Kd.C (Kd.int .i64) w Aa a.length a) (hca : a.length ≤ ca) (hrb : Kd.C (Kd.int .i64) w Ab b.length b) (hcb : b.length ≤ cb) :
    Calls Try.prog 35 #[.int .i64 n, .slice Aa a.length ca, .slice Ab b.length cb, .func (.func gis) #[] lbis] w (BestPost w (bfold pr p (ldg k k 0 [])).1 (bfold pr p (ldg k k 0 [])).2) := by
  subst hka
  have HM := Aside0.mk (best_more w n Aa ca a Ab cb b gis lbis pr p egis a.length hk1 hk2 hp hpr hra hca hrb hcb)
  have hmf : ∀ (fn : Fn) (first cap : Array Value) (w : World), (Instr.makeFunc fn first cap).run Try.prog w = .ok (.func fn first cap) w := fun _ _ _ _ => rfl
  have HK2 := Aside0.mk hk2
  have HRA := Aside0.mk hra
  clear hp hpr hra hrb hcb hca hk1 hk2
  generalize hal : a.length = la at *
  have HAL := Aside0.mk hal
  clear hal
  generalize hbl : b.length = lbb at *
  have HBL := Aside0.mk hbl
  clear hbl
  generalize hst : bfold pr p (ldg la la 0 []) = st
  have HST := Aside0.mk hst
  clear hst
  go_enter Try.func35, Try.ntmps35
  go_wp2_with fail
  obtain ⟨W0, hW0⟩ : ∃ W0, (((((w.alloc (.cells #[.int .i64 n] 49)).alloc (.cells #[.slice Aa la ca] 22)).alloc (.cells #[.slice Ab lbb cb] 22)).alloc (.cells #[.func (.func gis) #[] lbis] 53)).alloc (.cells #[.slice none 0 0] 22)).alloc (.cells #[.int .i64 0] 3) = W0 := ⟨_, rfl⟩
  obtain ⟨c0, c1, c2, c3, c4, c5, f4, f5, z, B0⟩ := six_new w _ _ _ _ _ _ _ _ _ _ _ _ W0 hW0
  rw [hW0]
  have hrun := leadings_calls (S := w.heap.size + 6) (enters_of Try.func53 (by kernel_rfl) rfl) HK2.out (best_inter w n Aa ca a Ab cb b gis lbis pr p) HM.out W0 z.symm (fun W hW => by
    have hc : ∀ i, i < w.heap.size + 6 → W.cell? ⟨i, 0, none⟩ = W0.cell? ⟨i, 0, none⟩ := fun i hi => hW.cell (p := ⟨i, 0, none⟩) hi
    have hz : ∀ i, i < w.heap.size + 6 → W.frozen? ⟨i, 0, none⟩ = W0.frozen? ⟨i, 0, none⟩ := fun i hi => hW.frozen (p := ⟨i, 0, none⟩) hi
    refine ⟨⟨B0.trans (hW.mono (by omega)), by have := hW.size; omega, (hc _ (by omega)).trans c0, by rw [HAL.out]; exact (hc _ (by omega)).trans c1, by rw [HBL.out]; exact (hc _ (by omega)).trans c2, (hc _ (by omega)).trans c3, ⟨none, 0, (hc _ (by omega)).trans c4, ?_, rfl⟩, (hc _ (by omega)).trans c5, (hz _ (by omega)).trans f4, (hz _ (by omega)).trans f5⟩, fun i hi => ?_⟩
    · exact Kd.R_nil _ _ _ _ _
    · rcases hi with hi | ⟨A0, l, c, e, _⟩
      · exact hi
      · rw [(hc _ (by omega)).trans c4] at e; cases e)
  unfold MoreLb at hrun
  have HR := Aside0.mk hrun
  clear hW0 c0 c1 c2 c3 c4 c5 f4 f5 z B0 hrun
  refine HR.out.mono ?_
  rintro e w2 ⟨⟨rv, rfl⟩, hB⟩
  have HB := Aside0.mk hB
  obtain ⟨A4, cc4, c4, hR4, hn4⟩ := hB.c4
  have c5 := hB.c5
  have f4 := hB.f4
  have f5 := hB.f5
  have HR4 := Aside0.mk hR4
  have HN4 := Aside0.mk hn4
  clear HR hR4 hn4 hB
  rw [HST.out] at c4 c5 HR4 HN4
  go_wp2
  go_region
  obtain ⟨W3, hW3⟩ : ∃ W3, ((w2.setCell ⟨w.heap.size + 1 + 1 + 1 + 1, 0, none⟩ (.slice A4 (optL st.1).length cc4)).setCell ⟨w.heap.size + 1 + 1 + 1 + 1 + 1, 0, none⟩ (.int .i64 st.2)) = W3 := ⟨_, rfl⟩
  have e5 : W3.cell? ⟨w.heap.size + 1 + 1 + 1 + 1 + 1, 0, none⟩ = some (.int .i64 st.2) := by
    rw [← hW3]; exact World.cell?_setCell_same' _ _ _ (by rw [World.cell?_setCell_far _ _ _ _ (by simp only [ne_eq]; omega), c5]; rfl)
  have e4 : W3.cell? ⟨w.heap.size + 1 + 1 + 1 + 1, 0, none⟩ = some (.slice A4 (optL st.1).length cc4) := by
    rw [← hW3, World.cell?_setCell_far _ _ _ _ (by simp only [ne_eq]; omega)]; exact World.cell?_setCell_same' _ _ _ (by rw [c4]; rfl)
  have HW : Aside0 (Below w.heap.size w W3) := ⟨by rw [← hW3]; exact ((HB.out.bl.setCell (p := ⟨w.heap.size + 1 + 1 + 1 + 1, 0, none⟩) (by simp only; omega) _).setCell (p := ⟨w.heap.size + 1 + 1 + 1 + 1 + 1, 0, none⟩) (by simp only; omega) _)⟩
  have HR5 : Aside0 (Kd.R (Kd.int .i64) 3 W3 w.heap.size (fun _ => True) (.slice A4 (optL st.1).length cc4) (optL st.1)) := ⟨by
    refine Kd.R_lower (Kd.R_mono (Kd.R_move (R_only HR4.out (ok' := fun k => w.heap.size + 10 ≤ k) (fun k hk => Kd.R_base HR4.out k hk)) (fun k hk => ?_)) (fun _ _ => trivial)) (Nat.le_add_right _ 10)
    rw [← hW3]
    exact (Below.heap_setCell _ _ _ _ (by simp only [ne_eq]; omega)).trans (Below.heap_setCell _ _ _ _ (by simp only [ne_eq]; omega))⟩
  rw [hW3]
  clear hW3 c4 c5 f4 f5 HR4 HB
  go_wp2
  refine bodyPost_ret (v := .tuple #[.slice A4 (optL st.1).length cc4, .int .i64 st.2]) (by simp [results, Try.results35, go_sem, e4, e5]) rfl ?_
  exact ⟨A4, cc4, rfl, Kd.R_drew HR5.out, HN4.out, below_drew HW.out⟩
end

end Go.Proofs.Ytdnjbjcfbdclfaa.P
namespace Go.Proofs.Ytdnjbjcfbdclfaa.P
open Go.RowKit Go.Proofs.YtdnjbjcfbdclfaaW.PrintWords Go.Proofs.YtdnjbjcfbdclfaaW.PrintLast Go.Proofs.YtdnjbjcfbdclfaaW.PrintMore
attribute [local go_sem] max2_int min2_int max_two min_two max_three min_three max_four min_four   -- for this text's walks alone
set_option linter.unusedVariables false
set_option linter.unusedSimpArgs false

/-! ### voices_circle_meet: function 55 -/
def voices_circle_meet.l0 : Nat → Int → Int → Int → Int → Option (Bool)
  | 0, _, _, _, _ => none
  | k + 1, x0, x13, x14, x15 => if x15 ≤ 2 then (if x13 < (wrap64 (x15 * x0)) then (if (wrap64 (x15 * x0)) < x14 then (some true) else (voices_circle_meet.l0 k x0 x13 x14 (wrap64 (x15 + 1)))) else (voices_circle_meet.l0 k x0 x13 x14 (wrap64 (x15 + 1)))) else (some false)
def voices_circle_meet.f (k : Nat) (a0 : Int) (a1 : Int) (a2 : Int) (a3 : Int) (a4 : Int) : Option (Bool) := if a1 = a3 then (some false) else ((voices_circle_mod.f a0 (wrap64 (a3 - a1))).bind fun t1001 => (voices_circle_meet.l0 k a0 (mn t1001 (wrap64 ((wrap64 (t1001 + a4)) - a2))) (mx t1001 (wrap64 ((wrap64 (t1001 + a4)) - a2))) (-1)))
theorem voices_circle_meet.mono_l : ∀ k, (∀ y0 y1 y2 y3, LeO (voices_circle_meet.l0 k y0 y1 y2 y3) (voices_circle_meet.l0 (k + 1) y0 y1 y2 y3))
  | 0 => fun _ _ _ _ r h => by simp [voices_circle_meet.l0] at h
  | k + 1 => by
    have ih0 := voices_circle_meet.mono_l k
    · intro y0 y1 y2 y3
      unfold voices_circle_meet.l0
      repeat' first
      | (with_reducible exact ih0 _ _ _ _)
      | (with_reducible exact LeO.refl _)
      | (with_reducible exact LeO.none _)
      | (with_reducible refine LeO.ite ?_ ?_)
      | (with_reducible refine LeO.bind ?_ (fun _ => ?_))
      | exact ih0 _ _ _ _
      | exact LeO.none _
      | refine LeO.ite ?_ ?_
      | refine LeO.bind ?_ (fun _ => ?_)
theorem voices_circle_meet.mono : ∀ a0 a1 a2 a3 a4 k, LeO (voices_circle_meet.f k a0 a1 a2 a3 a4) (voices_circle_meet.f (k + 1) a0 a1 a2 a3 a4) := by
  intro a0 a1 a2 a3 a4 k
  have ih0 := voices_circle_meet.mono_l k
  unfold voices_circle_meet.f
  repeat' first
      | (with_reducible exact ih0 _ _ _ _)
      | (with_reducible exact LeO.refl _)
      | (with_reducible exact LeO.none _)
      | (with_reducible refine LeO.ite ?_ ?_)
      | (with_reducible refine LeO.bind ?_ (fun _ => ?_))
      | exact ih0 _ _ _ _
      | exact LeO.none _
      | refine LeO.ite ?_ ?_
      | refine LeO.bind ?_ (fun _ => ?_)
set_option maxHeartbeats 8000000 in
set_option maxRecDepth 100000 in
theorem voices_circle_meet.calls (k : Nat) (a0 : Int) (a1 : Int) (a2 : Int) (a3 : Int) (a4 : Int) (r : Bool) (w : World) (h : voices_circle_meet.f k a0 a1 a2 a3 a4 = some r) :
    Calls Try.prog 55 #[.int .i64 a0, .int .i64 a1, .int .i64 a2, .int .i64 a3, .int .i64 a4] w fun e w' => e = .returned (.bool r) ∧ Below w.heap.size w w' := by
  have HB := Aside0.mk (Below.refl w.heap.size w)
  have H : (if a1 = a3 then (some false) else ((voices_circle_mod.f a0 (wrap64 (a3 - a1))).bind fun t1001 => (voices_circle_meet.l0 k a0 (mn t1001 (wrap64 ((wrap64 (t1001 + a4)) - a2))) (mx t1001 (wrap64 ((wrap64 (t1001 + a4)) - a2))) (-1)))) = some r := h
  clear h
  by_cases c6 : a1 = a3
  · rw [if_pos c6] at H
    have c6b0 : (a1 == a3) = true := beq_iff_eq.mpr c6
    have c6b1 : (a1 != a3) = false := bne_eq_false_iff_eq.mpr c6
    clear c6
    obtain rfl := Option.some.inj H
    go_enter Try.func55, Try.ntmps55
    go_wp2
    go_ret
    exact ⟨by first | rfl | (simp [errW_none, errW_some] <;> rfl) | (simp [*, errW_none, errW_some] <;> rfl), by repeat (first | (with_reducible first | exact HB.out | apply below_alloc | apply pw_below_drewN | apply below_drew1) | exact HB.out)⟩
  · rw [if_neg c6] at H
    have c6b0 : (a1 == a3) = false := beq_eq_false_iff_ne.mpr c6
    have c6b1 : (a1 != a3) = true := bne_iff_ne.mpr c6
    replace H := Option.bind_eq_some_iff.mp H
    obtain ⟨t1001, A70, H⟩ := H
    replace H : (voices_circle_meet.l0 k a0 (mn t1001 (wrap64 ((wrap64 (t1001 + a4)) - a2))) (mx t1001 (wrap64 ((wrap64 (t1001 + a4)) - a2))) (-1)) = some r := H
    have A7 := Aside0.mk A70
    clear A70
    obtain ⟨ji8, hji8⟩ : ∃ j_ : Int, (mn t1001 (wrap64 ((wrap64 (t1001 + a4)) - a2))) = j_ := ⟨_, rfl⟩
    replace H : (voices_circle_meet.l0 k a0 ji8 (mx t1001 (wrap64 ((wrap64 (t1001 + a4)) - a2))) (-1)) = some r := by first | (rw [hji8] at H; exact H) | (simp only [hji8] at H ⊢; exact H)
    (try rw [hji8] at A7)
    have hji8_ : (if (wrap64 ((wrap64 (t1001 + a4)) - a2)) < t1001 then (wrap64 ((wrap64 (t1001 + a4)) - a2)) else t1001) = ji8 := hji8
    obtain ⟨ji9, hji9⟩ : ∃ j_ : Int, (mx t1001 (wrap64 ((wrap64 (t1001 + a4)) - a2))) = j_ := ⟨_, rfl⟩
    replace H : (voices_circle_meet.l0 k a0 ji8 ji9 (-1)) = some r := by first | (rw [hji9] at H; exact H) | (simp only [hji9] at H ⊢; exact H)
    (try rw [hji9] at A7)
    have hji9_ : (if t1001 < (wrap64 ((wrap64 (t1001 + a4)) - a2)) then (wrap64 ((wrap64 (t1001 + a4)) - a2)) else t1001) = ji9 := hji9
    have H' := Aside0.mk H
    clear H
    go_enter Try.func55, Try.ntmps55
    go_wp2_with (first | ((with_reducible refine gate_callee (f := 62) rfl ?_); refine goesL_ (some 24) rfl rfl Try.func62 (by kernel_rfl) rfl #[.int .i64 a0, .int .i64 (wrap64 (a3 - a1))] rfl (by (try simp only [List.map_toArray, List.map_cons, List.map_nil]); first | done | rfl | (simp only [List.length_drop, List.length_take]; rfl)) ?_; (with_reducible refine (voices_circle_mod.calls a0 (wrap64 (a3 - a1)) t1001 _ A7.out).mono ?_); rintro e w' ⟨rfl, ⟨nd, rfl⟩⟩; refine ⟨_, rfl, ?_⟩))
    go_loopg [15] k (fun kq v15 w' => ∃ (x15_1 : Int), v15 = .int .i64 x15_1 ∧ Aside0 (voices_circle_meet.l0 kq a0 ji8 ji9 x15_1 = some r) ∧ Aside0 (kq ≤ k) ∧ Aside0 (Below w.heap.size w w'))
    case atStart => exact ⟨((-1)), (by first | rfl | (simp; done) | (simp [*]; done)), H', ⟨Nat.le_refl _⟩, ⟨by repeat (first | (with_reducible first | exact HB.out | apply below_alloc | apply pw_below_drewN | apply below_drew1) | exact HB.out)⟩⟩
    case round =>
      clear H'
      try clear p2
      try clear c5
      try clear c6
      try clear c6b0
      try clear c6b1
      try clear p6
      obtain ⟨x15_1, rfl, HA, HK1, HB⟩ := hrel
      cases gk with
      | zero => exact absurd HA.out (by simp [voices_circle_meet.l0])
      | succ k1 =>
        have H := HA.out
        clear HA
        simp only [voices_circle_meet.l0] at H
        by_cases c10 : x15_1 ≤ 2
        · rw [if_pos c10] at H
          have c10b0 : decide (x15_1 ≤ 2) = true := decide_eq_true c10
          clear c10
          by_cases c11 : ji8 < (wrap64 (x15_1 * a0))
          · rw [if_pos c11] at H
            have c11b0 : decide (ji8 < (wrap64 (x15_1 * a0))) = true := decide_eq_true c11
            clear c11
            by_cases c12 : (wrap64 (x15_1 * a0)) < ji9
            · rw [if_pos c12] at H
              have c12b0 : decide ((wrap64 (x15_1 * a0)) < ji9) = true := decide_eq_true c12
              clear c12
              obtain rfl := Option.some.inj H
              go_wp2
              go_ret
              exact ⟨by first | rfl | (simp [errW_none, errW_some] <;> rfl) | (simp only [← hji8, ← hji9]; first | rfl | (simp [errW_none, errW_some] <;> rfl)) | (simp [*, errW_none, errW_some] <;> rfl), by repeat (first | (with_reducible first | exact HB.out | apply below_alloc | apply pw_below_drewN | apply below_drew1) | exact HB.out)⟩
            · rw [if_neg c12] at H
              have c12b0 : decide ((wrap64 (x15_1 * a0)) < ji9) = false := decide_eq_false c12
              clear c12
              have H' := Aside0.mk H
              clear H
              go_wp2
              go_roundg k1
              case measure => have := HK1.out; omega
              case rel => exact ⟨(wrap64 (x15_1 + 1)), (by first | rfl | (simp; done) | (simp [*]; done)), H', ⟨by have := HK1.out; omega⟩, ⟨by repeat (first | (with_reducible first | exact HB.out | apply below_alloc | apply pw_below_drewN | apply below_drew1) | exact HB.out)⟩⟩
          · rw [if_neg c11] at H
            have c11b0 : decide (ji8 < (wrap64 (x15_1 * a0))) = false := decide_eq_false c11
            clear c11
            have H' := Aside0.mk H
            clear H
            go_wp2
            go_roundg k1
            case measure => have := HK1.out; omega
            case rel => exact ⟨(wrap64 (x15_1 + 1)), (by first | rfl | (simp; done) | (simp [*]; done)), H', ⟨by have := HK1.out; omega⟩, ⟨by repeat (first | (with_reducible first | exact HB.out | apply below_alloc | apply pw_below_drewN | apply below_drew1) | exact HB.out)⟩⟩
        · rw [if_neg c10] at H
          have c10b0 : decide (x15_1 ≤ 2) = false := decide_eq_false c10
          clear c10
          obtain rfl := Option.some.inj H
          go_wp2
          go_ret
          exact ⟨by first | rfl | (simp [errW_none, errW_some] <;> rfl) | (simp only [← hji8, ← hji9]; first | rfl | (simp [errW_none, errW_some] <;> rfl)) | (simp [*, errW_none, errW_some] <;> rfl), by repeat (first | (with_reducible first | exact HB.out | apply below_alloc | apply pw_below_drewN | apply below_drew1) | exact HB.out)⟩

end Go.Proofs.Ytdnjbjcfbdclfaa.P
