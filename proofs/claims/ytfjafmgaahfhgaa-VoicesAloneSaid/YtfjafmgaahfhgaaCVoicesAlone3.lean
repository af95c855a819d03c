/- A part of a proof that a law's Go function returns true for every input, laid by this session's program mp.py (which drives the kit's print). Conditions: as each theorem states them. -/
import Derived.RangeFuncNested
import Derived.RangeFuncBound
import Derived.RangeFuncCalls
import Derived.RangeFuncLeaves
import Derived.Shelf.Abstract
import Derived.Shelf.RegionOpen
import Derived.Shelf.AbstractIn
import Derived.Sort.QuietIn
import Derived.OwnWalkIn
import Derived.TacticsInMore
import Derived.LoopNIn
import Derived.LoopIn
import Derived.Stop.RegionWithIn
import Derived.StillTailTactics
import Derived.Laws.EntriesVeiled
import Derived.Maps.OwnIn
import Derived.Lib.SliceRun
import Derived.Test.YtfjafmgaahfhgaaCVoicesAlone1
import Derived.Test.YtfjafmgaahfhgaaCVoicesAlone2
namespace Go.Proofs.Ytfjafmgaahfhgaa.P
open Go.RowKit Go.Proofs.YtfjafmgaahfhgaaW.PrintWords Go.Proofs.YtfjafmgaahfhgaaW.PrintLast Go.Proofs.YtfjafmgaahfhgaaW.PrintMore
attribute [local go_sem] max2_int min2_int max_two min_two max_three min_three max_four min_four   -- for this text's walks alone
set_option linter.unusedVariables false
set_option linter.unusedSimpArgs false

attribute [local go_sem] Oper.semAt_some
/-! voices.all: the walk over the next tone -/
theorem alTo_split (n r f : Nat) (cur : List Nat) {i m : Nat} (h : i < m) : ∃ t, alTo n r f cur m = alTo n r f cur i ++ alN n r (f + i) (cur ++ [f + i]) ++ t := by
  obtain ⟨d, rfl⟩ : ∃ d, m = i + 1 + d := ⟨m - (i + 1), by omega⟩
  induction d with
  | zero => exact ⟨[], by rw [List.append_nil]; exact alTo_succ n r f cur i⟩
  | succ d ih =>
    obtain ⟨t, ht⟩ := ih (by omega)
    exact ⟨t ++ alN n r (f + (i + 1 + d)) (cur ++ [f + (i + 1 + d)]), by rw [show i + 1 + (d + 1) = (i + 1 + d) + 1 from rfl, alTo_succ, ht]; simp⟩
section
variable {P : World → Nat → Prop} {XB : Nat → Prop} {S bk bn k n l : Nat}
theorem AlSt.app {cur : List Nat} {W W1 : World} (hbk : bk < S) (hbn : bn < S) (hL : AlSt P S bk bn k n l cur W) (hpi : AlPI P W) {A : Option Addr} {c : Nat} (hcl : W.cell? ⟨S + 1, 0, none⟩ = some (.slice A (nums cur).length c)) (hR : Kd.R (Kd.int .i64) 3 W (S + 3) (fun i => ¬ P W i) (.slice A (nums cur).length c) (nums cur)) (x : Nat) {v1 : Value}
    (ho : W1.ownsRow (S + 3) 3 1 v1 ((nums cur).length + 1) ((nums cur).map (Value.int .i64) ++ [.int .i64 (x : Int)])) (hg : (W.alloc (.cells #[.int .i64 (x : Int)] 3)).grownBy W1 (Value.slice A (nums cur).length c).ownBlock) (hat : v1.ownBlock = (Value.slice A (nums cur).length c).ownBlock ∨ v1.ownBlock = some (W.alloc (.cells #[.int .i64 (x : Int)] 3)).heap.size) :
    W1.cell? ⟨S + 1, 0, none⟩ = some (.slice A (nums cur).length c) ∧ W1.frozen? ⟨S + 1, 0, none⟩ = false ∧ AlSteps P W (W1.setCell ⟨S + 1, 0, none⟩ v1) ∧ AlSt P S bk bn k n l (cur ++ [x]) (W1.setCell ⟨S + 1, 0, none⟩ v1) := by
  have hsz : S + 3 ≤ W.heap.size := by have := World.block_lt_of_cell? W _ hL.cg; simp only at this; omega
  have hb3 := Kd.R_base hR
  have hlt := Kd.R_lt hR
  have ha : Fr (fun i => i < W.heap.size) W (W.alloc (.cells #[.int .i64 (x : Int)] 3)) := Fr.alloc _ _ (fun _ h => h)
  have hfr : Fr (fun i => i < W.heap.size ∧ (Value.slice A (nums cur).length c).ownBlock ≠ some i) W W1 := (ha.mono (fun i hi => hi.1)).trans (Fr.grown hg (fun i hi => by simp only [World.size_alloc]; omega) (fun i hi hp => hp.2 hi))
  have hne : ∀ b, b < S + 3 → (Value.slice A (nums cur).length c).ownBlock ≠ some b := fun b hb e => by have := hb3 b e; omega
  have hbx : ∀ b, b < S + 3 → W1.cell? ⟨b, 0, none⟩ = W.cell? ⟨b, 0, none⟩ := fun b hb => hfr.cell ⟨by omega, hne b hb⟩ 0
  have f1 : W1.frozen? ⟨S + 1, 0, none⟩ = false := (hfr.frozen ⟨by omega, hne _ (by omega)⟩ 0).trans hL.fv
  have c1 := (hbx (S + 1) (by omega)).trans hcl
  have hnP : ¬ P W (S + 1) := hL.nb _ (by omega) (by omega)
  have hFP : Fr (P W) W (W1.setCell ⟨S + 1, 0, none⟩ v1) := (hfr.mono (fun i hi => ⟨hpi.1 i hi, fun e => hR.1 i e hi⟩)).trans (Fr.setCell _ _ hnP)
  have hKO : KeepsOthers W (W1.setCell ⟨S + 1, 0, none⟩ v1) := by
    refine ((KeepsOthers.alloc _ _).trans (KeepsOthers.of_grownBy hg (fun j o e ho2 => ?_))).trans (KeepsOthers.setCell _ _ _)
    obtain ⟨cells, hcl2⟩ := own_typed (Kd.own_of_R hR) j e
    have h2 := (ha.block j (hlt j e)).trans hcl2
    rw [h2] at ho2
    cases ho2
    rfl
  refine ⟨c1, f1, ⟨hFP, hKO⟩, ?_⟩
  have hiff := hpi.2 _ hFP
  have hb2 : ∀ b, b ≠ S + 1 → (W1.setCell ⟨S + 1, 0, none⟩ v1).cell? ⟨b, 0, none⟩ = W1.cell? ⟨b, 0, none⟩ := fun b h => by unfold World.cell?; simp only [Below.heap_setCell W1 ⟨S + 1, 0, none⟩ v1 b h]
  have hown : v1.ownBlock ≠ some (S + 1) := fun e => by
    rcases hat with h | h
    · exact hne (S + 1) (by omega) (h.symm.trans e)
    · rw [h] at e; injection e with e; simp only [World.size_alloc] at e; omega
  obtain ⟨A1, cc1, e1⟩ := own_slice ho
  have hlen : (nums (cur ++ [x])).length = (nums cur).length + 1 := by rw [nums_snoc, List.length_append]; rfl
  refine ⟨(hb2 _ (by omega)).trans ((hbx _ (by omega)).trans hL.ck), (hb2 _ (by omega)).trans ((hbx _ (by omega)).trans hL.cn), (hb2 _ (by omega)).trans ((hbx _ (by omega)).trans hL.cy), ⟨A1, cc1, ?_, ?_⟩, by rw [World.frozen?_setCell]; exact f1, (hb2 _ (by omega)).trans ((hbx _ (by omega)).trans hL.cg), fun i h1 h2 hp => hL.nb i h1 h2 ((hiff i).1 hp)⟩
  · rw [hlen, ← e1]; exact World.cell?_setCell_same' _ _ _ (by rw [c1]; rfl)
  · rw [hlen, ← e1, nums_snoc]
    refine Kd.R_of_own (h1 := fun _ => rfl) ?_ ?_
    · have := own_move (w1 := W1.setCell ⟨S + 1, 0, none⟩ v1) ho (fun i hi => Below.heap_setCell _ _ _ _ (fun e => hown (by rw [hi, e])))
      simpa [encs] using this
    · intro i hi hp
      have hp2 := (hiff i).1 hp
      rcases hat with h | h
      · exact hR.1 i (h.symm.trans hi) hp2
      · have := hpi.1 i hp2
        rw [h] at hi; injection hi with hi; simp only [World.size_alloc] at hi; omega
theorem AlSt.pop {cur : List Nat} {W : World} (x : Nat) (hbk : bk < S) (hbn : bn < S) (hL : AlSt P S bk bn k n l (cur ++ [x]) W) (hpi : AlPI P W) {A : Option Addr} {c : Nat} (hcl : W.cell? ⟨S + 1, 0, none⟩ = some (.slice A ((nums cur).length + 1) c)) (hR : Kd.R (Kd.int .i64) 3 W (S + 3) (fun i => ¬ P W i) (.slice A ((nums cur).length + 1) c) (nums (cur ++ [x]))) :
    AlSteps P W (W.setCell ⟨S + 1, 0, none⟩ (.slice A (nums cur).length c)) ∧ AlSt P S bk bn k n l cur (W.setCell ⟨S + 1, 0, none⟩ (.slice A (nums cur).length c)) := by
  have hnP : ¬ P W (S + 1) := hL.nb _ (by omega) (by omega)
  have hFP : Fr (P W) W (W.setCell ⟨S + 1, 0, none⟩ (.slice A (nums cur).length c)) := Fr.setCell _ _ hnP
  have hiff := hpi.2 _ hFP
  have hb2 : ∀ b, b ≠ S + 1 → (W.setCell ⟨S + 1, 0, none⟩ (.slice A (nums cur).length c)).cell? ⟨b, 0, none⟩ = W.cell? ⟨b, 0, none⟩ := fun b h => by unfold World.cell?; simp only [Below.heap_setCell W ⟨S + 1, 0, none⟩ (.slice A (nums cur).length c) b h]
  refine ⟨⟨hFP, KeepsOthers.setCell _ _ _⟩, ⟨(hb2 _ (by omega)).trans hL.ck, (hb2 _ (by omega)).trans hL.cn, (hb2 _ (by omega)).trans hL.cy, ⟨A, c, World.cell?_setCell_same' _ _ _ (by rw [hcl]; rfl), ?_⟩, by rw [World.frozen?_setCell]; exact hL.fv, (hb2 _ (by omega)).trans hL.cg, fun i h1 h2 hp => hL.nb i h1 h2 ((hiff i).1 hp)⟩⟩
  have ht := Kd.R_take hR (m := (nums cur).length) (by rw [nums_snoc, List.length_append]; omega)
  rw [nums_snoc, List.take_left' rfl] at ht
  refine Kd.R_mono (Kd.R_far (ok := fun i => ¬ P W i ∧ i ≠ S + 1) (Kd.R_mono (Kd.R_bound ht) (fun i hi => ⟨hi.1, by have := hi.2.1; omega⟩)) (fun i hi => hi.2) _) (fun i hi hp => hi.1 ((hiff i).1 hp))
end

end Go.Proofs.Ytfjafmgaahfhgaa.P
namespace Go.Proofs.Ytfjafmgaahfhgaa.P
open Go.RowKit Go.Proofs.YtfjafmgaahfhgaaW.PrintWords Go.Proofs.YtfjafmgaahfhgaaW.PrintLast Go.Proofs.YtfjafmgaahfhgaaW.PrintMore
attribute [local go_sem] max2_int min2_int max_two min_two max_three min_three max_four min_four   -- for this text's walks alone
set_option linter.unusedVariables false
set_option linter.unusedSimpArgs false

attribute [local go_sem] Oper.semAt_some
/-! boxes, and what a round leaves -/
/-- a box of one or two cells that may be written -/
structure BoxAt (W : World) (b : Nat) (cs : List Value) : Prop where
  cell : ∀ i v, cs[i]? = some v → W.cell? ⟨b, i, none⟩ = some v
  frozen : ∀ i, W.frozen? ⟨b, i, none⟩ = false
theorem BoxAt.new (w : World) (cs : List Value) (t : TypeId) : BoxAt (w.alloc (.cells cs.toArray t)) w.heap.size cs := by
  have h := World.alloc_heap_new w (.cells cs.toArray t)
  exact ⟨fun i v hv => by unfold World.cell?; simp only [h]; simpa using hv, fun i => by unfold World.frozen?; simp only [h]; simp⟩
theorem BoxAt.heap {W W' : World} {b : Nat} {cs : List Value} (h : BoxAt W b cs) (hh : W'.heap[b]? = W.heap[b]?) : BoxAt W' b cs :=
  ⟨fun i v hv => by have := h.cell i v hv; unfold World.cell? at this ⊢; simp only [hh]; exact this, fun i => by have := h.frozen i; unfold World.frozen? at this ⊢; simp only [hh]; exact this⟩
theorem BoxAt.lt {W : World} {b : Nat} {v : Value} {cs : List Value} (h : BoxAt W b (v :: cs)) : b < W.heap.size := World.block_lt_of_cell? W _ (h.cell 0 v rfl)
theorem BoxAt.alloc {W : World} {b : Nat} {v : Value} {cs : List Value} (h : BoxAt W b (v :: cs)) (o : Obj) : BoxAt (W.alloc o) b (v :: cs) := h.heap (Below.heap_alloc _ _ _ h.lt)
theorem BoxAt.drewN {W : World} {b : Nat} {cs : List Value} (h : BoxAt W b cs) (q : Nat) : BoxAt (W.drewN q) b cs := ⟨h.cell, h.frozen⟩
theorem BoxAt.grown {W W' : World} {b : Nat} {v : Value} {cs : List Value} (h : BoxAt W b (v :: cs)) (hg : W.grownBy W' none) : BoxAt W' b (v :: cs) := h.heap (hg.block b h.lt (by simp))
theorem BoxAt.own {W W' : World} {b : Nat} {v : Value} {cs : List Value} {row : Option Nat} (h : BoxAt W b (v :: cs)) (hg : W.grownBy W' row) (hr : ∀ r, row = some r → ∃ o : Obj, W.heap[r]? = some o ∧ o.isCells = false) : BoxAt W' b (v :: cs) :=
  ⟨fun i u hu => cell_kept (h.cell i u hu) hg hr, fun i => by
    have hb : W'.heap[b]? = W.heap[b]? := by
      refine hg.block b h.lt (fun e => ?_)
      obtain ⟨o, ho, hc⟩ := hr b e.symm
      have := h.cell 0 v rfl
      unfold World.cell? at this; rw [ho] at this; cases o <;> simp_all [Obj.isCells]
    exact (h.heap hb).frozen i⟩

theorem own_kpc {base : Nat} {A B : World} {row : Option Nat} (hg : A.grownBy B row) (hr : ∀ r, row = some r → base ≤ r ∧ ∃ o : Obj, A.heap[r]? = some o ∧ o.isCells = false) : KpC (fun _ _ => False) A B :=
  ⟨hg.size, fun b o _ ho hc => by
    refine (hg.block b (Array.getElem?_eq_some_iff.1 ho).1 (fun e => ?_)).trans ho
    obtain ⟨_, o', ho', hc'⟩ := hr b e.symm
    rw [ho] at ho'; cases ho'; rw [hc] at hc'; cases hc'⟩
theorem C_kpc {X : Nat → Obj → Prop} {W W' : World} {A : Option Addr} {m : Nat} {xs : List Int} (h : Kd.C (Kd.int .i64) W A m xs) (hk : KpC X W W') (hx : ∀ a o, A = some a → 0 < m → ¬ X a.block o) : Kd.C (Kd.int .i64) W' A m xs := by
  obtain ⟨h1, h2, h3⟩ := h
  refine ⟨h1, h2, fun hn => ?_⟩
  obtain ⟨ad, e, hc⟩ := h3 hn
  refine ⟨ad, e, fun j p hp => ?_⟩
  obtain ⟨c, hcl, hR, hcc⟩ := hc j p hp
  refine ⟨c, hcl, hR, fun i u hu => ?_⟩
  have h4 := hcc i u hu
  have hb : ∀ o, ¬ X (ad.add (j * (Kd.int .i64).sz + i)).block o := fun o => by rw [add_block]; exact hx ad o e hn
  generalize ad.add (j * (Kd.int .i64).sz + i) = p4 at h4 hb ⊢
  obtain ⟨o, ho⟩ : ∃ o, W.heap[p4.block]? = some o := ⟨_, Array.getElem?_eq_getElem (World.block_lt_of_cell? W _ h4)⟩
  have hoc : o.isCells = true := by
    unfold World.cell? at h4
    rw [ho] at h4
    cases o <;> simp_all [Obj.isCells]
  have h5 := hk.2 _ o (hb o) ho hoc
  unfold World.cell? at h4 ⊢
  rw [ho] at h4; rw [h5]; exact h4
theorem BoxAt.kpc {X : Nat → Obj → Prop} {W W' : World} {b : Nat} {v : Value} {cs : List Value} (h : BoxAt W b (v :: cs)) (hk : KpC X W W') (hx : ∀ o, W.heap[b]? = some o → ¬ X b o) : BoxAt W' b (v :: cs) := by
  obtain ⟨o, ho⟩ : ∃ o, W.heap[b]? = some o := ⟨_, Array.getElem?_eq_getElem h.lt⟩
  exact h.heap ((hk.2 b o (hx o ho) ho (isCells_of (h.cell 0 v rfl) ho)).trans ho.symm)
theorem BoxAt.far {W : World} {b : Nat} {cs : List Value} (h : BoxAt W b cs) {p : Addr} (hp : b ≠ p.block) (x : Value) : BoxAt (W.setCell p x) b cs := h.heap (Below.heap_setCell _ _ _ _ hp)
theorem BoxAt.put1 {W : World} {b : Nat} {u : Value} (h : BoxAt W b [u]) (x : Value) : BoxAt (W.setCell ⟨b, 0, none⟩ x) b [x] :=
  ⟨fun i v hv => by
    match i, hv with
    | 0, hv => cases hv; exact World.cell?_setCell_same' _ _ _ (by rw [h.cell 0 u rfl]; rfl)
    | i + 1, hv => simp at hv, fun i => by rw [World.frozen?_setCell]; exact h.frozen i⟩
theorem BoxAt.put2 {W : World} {b : Nat} {u v : Value} (h : BoxAt W b [u, v]) (x y : Value) : BoxAt ((W.setCell ⟨b, 0, none⟩ x).setCell ⟨b, 1, none⟩ y) b [x, y] := by
  have h0 : (W.setCell ⟨b, 0, none⟩ x).cell? ⟨b, 0, none⟩ = some x := World.cell?_setCell_same' _ _ _ (by rw [h.cell 0 u rfl]; rfl)
  have h1 : (W.setCell ⟨b, 0, none⟩ x).cell? ⟨b, 1, none⟩ = some v := by rw [World.cell?_setCell_other _ _ _ _ (by simp)]; exact h.cell 1 v rfl
  refine ⟨fun i z hz => ?_, fun i => by rw [World.frozen?_setCell, World.frozen?_setCell]; exact h.frozen i⟩
  match i, hz with
  | 0, hz => cases hz; rw [World.cell?_setCell_other _ _ _ _ (by simp)]; exact h0
  | 1, hz => cases hz; exact World.cell?_setCell_same' _ _ _ (by rw [h1]; rfl)
  | i + 2, hz => simp at hz
theorem stores3 {w W : World} {S : Nat} {u v z : Value} (y1 : BoxAt W (S + 1) [u, v]) (y2 : BoxAt W (S + 1 + 1) [z]) (y3 : Below S w W) (x y r : Value) (V : World) (hV : V = ((W.setCell ⟨S + 1, 0, none⟩ x).setCell ⟨S + 1, 1, none⟩ y).setCell ⟨S + 1 + 1, 0, none⟩ r) :
    KeepsOthers W V ∧ BoxAt V (S + 1) [x, y] ∧ BoxAt V (S + 1 + 1) [r] ∧ Below S w V := by
  subst hV
  refine ⟨((KeepsOthers.setCell _ _ _).trans (KeepsOthers.setCell _ _ _)).trans (KeepsOthers.setCell _ _ _), (y1.put2 x y).far (by simp) r, ((y2.far (by simp) x).far (by simp) y).put1 r, ?_⟩
  exact ((y3.setCell (p := ⟨S + 1, 0, none⟩) (by simp) _).setCell (p := ⟨S + 1, 1, none⟩) (by simp) _).setCell (p := ⟨S + 1 + 1, 0, none⟩) (by simp; omega) _
theorem find_at {α : Type} {xs pre rest : List α} {x : α} {p : α → Bool} (h : xs = pre ++ x :: rest) (hp : ∀ q ∈ pre, p q = false) (hx : p x = true) : xs.find? p = some x := by
  subst h
  rw [List.find?_append, List.find?_eq_none.2 (fun q hq => by simp [hp q hq])]
  simp [hx]


end Go.Proofs.Ytfjafmgaahfhgaa.P
namespace Go.Proofs.Ytfjafmgaahfhgaa.P
open Go.RowKit Go.Proofs.YtfjafmgaahfhgaaW.PrintWords Go.Proofs.YtfjafmgaahfhgaaW.PrintLast Go.Proofs.YtfjafmgaahfhgaaW.PrintMore
attribute [local go_sem] max2_int min2_int max_two min_two max_three min_three max_four min_four   -- for this text's walks alone
set_option linter.unusedVariables false
set_option linter.unusedSimpArgs false

attribute [local go_sem] Oper.semAt_some
/-! voices.all: the loop over the next tone -/
section
variable {P : World → Nat → Prop} {XB : Nat → Prop} {S bk bn k n l : Nat}
set_option maxHeartbeats 4000000 in
set_option maxRecDepth 100000 in
theorem al_more {J : List (List Nat) → World → Prop} {xs : List (List Nat)} (hJs : ∀ s A B, J s A → AlSteps P A B → J s B) (hPI : ∀ s A, J s A → AlPI P A) (hbk : bk < S) (hbn : bn < S) (hk : k ≤ 100) (hn : n ≤ 1000) (f r : Nat) (hf : f ≤ n) (cur : List Nat) (hc : cur.length + (r + 1) = k) (pre rest : List (List Nat)) (W : World) (hx : xs = pre ++ alTo n r f cur (n - f) ++ rest) (hJ : J pre W) (hL : AlSt P S bk bn k n l cur W)
    (ih : ∀ (x : Nat) (pre rest : List (List Nat)) (W : World), f ≤ x → x < n → xs = pre ++ alN n r x (cur ++ [x]) ++ rest → J pre W → AlSt P S bk bn k n l (cur ++ [x]) W →
      CallsIn Fence.wide 2 Try.prog 61 #[.int .i64 (x : Int), .pointer (some ⟨S + 1, 0, none⟩), .pointer (some ⟨bk, 0, none⟩), .pointer (some ⟨S, 0, none⟩), .pointer (some ⟨bn, 0, none⟩), .pointer (some ⟨S + 1 + 1, 0, none⟩)] W (AlPost P S bk bn k n l J (cur ++ [x]) (pre ++ alN n r x (cur ++ [x])))) :
    CallsIn Fence.wide 2 Try.prog 61 #[.int .i64 (f : Int), .pointer (some ⟨S + 1, 0, none⟩), .pointer (some ⟨bk, 0, none⟩), .pointer (some ⟨S, 0, none⟩), .pointer (some ⟨bn, 0, none⟩), .pointer (some ⟨S + 1 + 1, 0, none⟩)] W (AlPost P S bk bn k n l J cur (pre ++ alTo n r f cur (n - f))) := by
  have HL := Aside0.mk hL
  have HJ := Aside0.mk hJ
  have HIH := Aside0.mk ih
  have HJS := Aside0.mk hJs
  have HPI := Aside0.mk hPI
  have HX := Aside0.mk hx
  obtain ⟨A, c, cl, hR⟩ := hL.cvv
  have ck := hL.ck
  obtain ⟨L, hlen⟩ : ∃ L, (nums cur).length = L := ⟨_, rfl⟩
  have hLk : L < k := by rw [nums_length] at hlen; omega
  rw [hlen] at cl
  have HLEN := Aside0.mk hlen
  have hne : ((L : Int) == (k : Int)) = false := beq_eq_false_iff_ne.2 (by omega)
  clear hL hR hlen hc hJ ih hJs hPI hx
  refine callsIn_of_wp Try.func61 rfl trivial ?_ rfl
  simp only [Try.ntmps61, List.size_toArray, List.length_cons, List.length_nil, Nat.reduceAdd, Nat.reduceSub, Array.replicate_succ, Array.replicate_zero, List.push_toArray, List.append_toArray, List.nil_append, List.cons_append]
  gi_wp2
  gi_loopw [8] (fun p wr => ∃ x i : Nat, p = .int .i64 (x : Int) ∧ x = f + i ∧ x ≤ n ∧ Aside0 (J (pre ++ alTo n r f cur i) wr) ∧ Aside0 (AlSt P S bk bn k n l cur wr)) (fun p wr => n - (intO p).toNat)
  case atStart => exact ⟨f, 0, rfl, rfl, hf, ⟨by show J (pre ++ []) _; rw [List.append_nil]; exact HJ.out⟩, HL⟩
  case round =>
    clear HL HJ cl ck hne
    obtain ⟨x, i, rfl, hxi, hxn, HJ, HL⟩ := hrel
    have HXI := Aside0.mk hxi
    have cn := HL.out.cn
    clear hxi
    rcases Nat.lt_or_eq_of_le hxn with hlt | rfl
    · have hltz : (x : Int) < (n : Int) := by omega
      have HLT := Aside0.mk hlt
      have HS : Aside0 (alTo n r f cur (i + 1) = alTo n r f cur i ++ alN n r x (cur ++ [x])) := ⟨by rw [HXI.out]; exact alTo_succ n r f cur i⟩
      have HX2 : Aside0 (∃ t, xs = (pre ++ alTo n r f cur i) ++ alN n r x (cur ++ [x]) ++ t) := ⟨by
        obtain ⟨t, ht⟩ := alTo_split n r f cur (show i < n - f by have := HXI.out; omega)
        exact ⟨t ++ rest, by rw [HX.out, ht, HXI.out]; simp⟩⟩
      have hfx : f ≤ x := by have := HXI.out; omega
      have HFX := Aside0.mk hfx
      clear hxn hlt hfx
      obtain ⟨A, c, cl, hR⟩ := HL.out.cvv
      have HCL := Aside0.mk cl
      have HR := Aside0.mk hR
      rw [HLEN.out] at cl
      have HPI1 := Aside0.mk (HPI.out _ _ HJ.out)
      obtain ⟨i0, hi, hz0, hz1, hz2⟩ := info_parts info3
      have HNC := Aside0.mk (BoxAt.new wr [.int .i64 (x : Int)] 3)
      have HROW : Aside0 ((wr.alloc (.cells #[.int .i64 (x : Int)] 3)).ownsRow (S + 3) 3 1 (.slice A L c) L ((nums cur).map (Value.int .i64))) := ⟨by rw [← HLEN.out]; exact own_alloc (Kd.own_of_R HR.out) _⟩
      have hsz : S + 3 ≤ wr.heap.size := by have := World.block_lt_of_cell? wr _ HL.out.cg; simp only at this; omega
      have HSZ := Aside0.mk hsz
      clear hR hsz
      gi_wp2_with (first | (gi_at_builtin; refine wpListIn_append_own_at _ rfl (.tmp 24) (.tmp 26) 23 rfl (S + 3) 3 i0 _ 1 8 Try.underlying23 hi hz0 hz1 hz2 rfl (by decide) _ _ _ rfl HROW.out ⟨wr.heap.size, 0, none⟩ 1 1 [.int .i64 (x : Int)] rfl rfl (fun j u hu => by rw [add_plain]; exact HNC.out.cell j u hu) (by simp [Value.oneCell']) ?ab ?ab2 ?ab3 ?_; (case ab => simp only [maxLen]; omega); (case ab2 => omega); (case ab3 => have := HSZ.out; simp only [World.size_alloc]; omega); intro v' w1 hown' hgrow hnil hat; obtain ⟨A9, c9, e9⟩ := own_slice hown'; subst e9; obtain ⟨c1, f1, hst, hl2⟩ := AlSt.app hbk hbn HL.out HPI1.out HCL.out HR.out x (by rw [HLEN.out]; exact hown') (by rw [HLEN.out]; exact hgrow) (by rw [HLEN.out]; exact hat); rw [HLEN.out] at c1; have HST := Aside0.mk hst; have HL2 := Aside0.mk hl2; have cg2 : (w1.setCell ⟨S + 1, 0, none⟩ (.slice A9 (L + 1) c9)).cell? ⟨S + 1 + 1, 0, none⟩ = some (.func (.func 61) #[] #[.pointer (some ⟨S + 1, 0, none⟩), .pointer (some ⟨bk, 0, none⟩), .pointer (some ⟨S, 0, none⟩), .pointer (some ⟨bn, 0, none⟩), .pointer (some ⟨S + 1 + 1, 0, none⟩)]) := hl2.cg; have cg1 : w1.cell? ⟨S + 1 + 1, 0, none⟩ = some (.func (.func 61) #[] #[.pointer (some ⟨S + 1, 0, none⟩), .pointer (some ⟨bk, 0, none⟩), .pointer (some ⟨S, 0, none⟩), .pointer (some ⟨bn, 0, none⟩), .pointer (some ⟨S + 1 + 1, 0, none⟩)]) := by { rw [← cg2]; unfold World.cell?; simp only [Below.heap_setCell w1 ⟨S + 1, 0, none⟩ (.slice A9 (L + 1) c9) (S + 1 + 1) (by simp)] }; obtain ⟨t, ht⟩ := HX2.out; have HCALL := Aside0.mk (HIH.out x (pre ++ alTo n r f cur i) t _ HFX.out HLT.out ht (HJS.out _ _ _ HJ.out HST.out) hl2); clear hown' hgrow hnil hat hst hl2 ht))
      refine ⟨trivial, (callsIn_wide.2 (callsIn_wide.1 HCALL.out)).mono ?_⟩
      rintro e w3 ⟨rfl, hj3, hl3⟩
      obtain ⟨A3, c3, cl3, hr3⟩ := hl3.cvv
      have hsn : (nums (cur ++ [x])).length = L + 1 := by rw [nums_snoc, List.length_append, HLEN.out]; rfl
      have HCL3 := Aside0.mk cl3
      rw [hsn] at cl3
      have fl3 := hl3.fv
      have hc3 : L + 1 ≤ c3 := hsn ▸ (Kd.R_reads' hr3).2.1
      have hc3z : (L : Int) ≤ (c3 : Int) := by omega
      have hpop := AlSt.pop x hbk hbn hl3 (HPI.out _ _ hj3) (by rw [HLEN.out]; exact cl3) (by rw [HLEN.out, ← hsn]; exact hr3)
      rw [HLEN.out] at hpop
      have HPOP := Aside0.mk hpop
      have HJ3 := Aside0.mk (HJS.out _ _ _ hj3 hpop.1)
      have HL3 := Aside0.mk hpop.2
      clear hr3 hl3 hj3 hsn hpop hc3
      gi_wp2
      go_roundw
      case rel => exact ⟨x + 1, i + 1, by go_num, by have := HXI.out; omega, HLT.out, ⟨by rw [HS.out, ← List.append_assoc]; exact HJ3.out⟩, HL3⟩
      case measure => exact intO_less (by go_num) HLT.out
    · gi_wp2
      refine bodyPost_ret (results_tmp rfl _ _ _) rfl ?_
      have hj := HJ.out
      rw [show i = x - f by have := HXI.out; omega] at hj
      exact ⟨rfl, hj, HL.out⟩
end

end Go.Proofs.Ytfjafmgaahfhgaa.P
namespace Go.Proofs.Ytfjafmgaahfhgaa.P
open Go.RowKit
/-! A range over an iterator that writes blocks of its own between the rounds; no round leaves the loop. What a round may keep of what it is handed is told by Kp. -/
def LeftGo {α : Type} (Kp : World → World → Prop) (I : List α → World → Prop) (xs : List α) (W : World) : Exit → Act → World → Prop
  | .normal, _, W' => KeepsOthers W W' ∧ Kp W W' ∧ I xs W'
  | _, _, _ => False
def SeqFg {α : Type} (F : Fence) (n : Nat) (P : Program) (g : Nat) (fs lb : Array Value) (Enc : α → World → Array Value → Prop) (xs : List α) (St : World → World → Prop) (Kp : Array Value → World → World → Prop) (PI : World → Prop) (w : World) : Prop :=
  ∀ (l : Nat) (J : List α → World → Prop) (W : World), Below w.heap.size w W → (∀ s A B, J s A → St A B → J s B) → (∀ s A, J s A → PI A) →
    (∀ pre x rest W1 vals, xs = pre ++ x :: rest → J pre W1 → Enc x W1 vals → YieldAt F (n - 1) P l vals W1 fun e W' => e = .returned (.bool true) ∧ J (pre ++ [x]) W' ∧ Kp vals W1 W') →
    J [] W →
    CallsIn F n P g (fs ++ #[.func (.yield l) #[] #[]] ++ lb) W fun e W' => (∃ v, e = .returned v) ∧ J xs W'
variable {F : Fence} {n : Nat} {P : Program}
theorem range_fg {α : Type} {g : Operand} {ps : Array Tmp} {assign body : Code} {Q : Exit → Act → World → Prop} {a : Act} {w : World}
    (hro : F.round = none) (h1 : 1 ≤ n) {gf : Nat} {fs lb : Array Value} (hg : a.eval g = .func (.func gf) fs lb) (hFg : F.fn gf) (eg : ∀ args w, (callFunc gf args).run P w = .ok (.enter gf args) w)
    {Enc : α → World → Array Value → Prop} {St : World → World → Prop} {Kp : Array Value → World → World → Prop} {PI : World → Prop} {xs : List α} (hseq : SeqFg F (n - 1) P gf fs lb Enc xs St Kp PI w) (hps : ∀ x W vals, Enc x W vals → vals.size = ps.size)
    (hSt : ∀ A B, St A B → KeepsOthers A B)
    (hKt : ∀ {v : Array Value} {A B C : World}, Kp v A B → Kp v B C → Kp v A C) (hKb : ∀ (v : Array Value) (W : World) (l : Nat) (o o' : Obj), w.heap.size ≤ l → W.heap[l]? = some o → o.isCells = false → Kp v W (W.putObj l o'))
    (I : List α → World → Prop) (hI : OwnFrom w.heap.size I)
    (hIs : ∀ s A B, I s A → St A B → I s B) (hPI : ∀ s A, I s A → PI A) (h0 : I [] w) (Ax : α → Array Value → Act → World → Prop) (hAx : ∀ x v a', OwnFrom w.heap.size (fun (_ : Unit) W => Ax x v a' W))
    (hassign : ∀ (l : Nat) (pre : List α) (x : α) (vals : Array Value) (W : World) (K : Act → World → Prop), I pre W → Enc x W vals → (∀ a' W', KeepsOthers W W' → Kp vals W W' → I pre W' → Ax x vals a' W' → K a' W') →
      assign.wpIn (F.inRound l) (n - 1 - 1) P (Exit.then K (fun _ _ _ => False)) { tmps := (ps.zip vals).foldl (fun t (p, v) => t.setIfInBounds p v) a.tmps, defers := [] } W)
    (hbody : ∀ (l : Nat) (pre : List α) (x : α) (rest : List α) (vals : Array Value) (a' : Act) (W : World), w.heap.size ≤ l → (∃ r, W.heap[l]? = some (.loop r)) → xs = pre ++ x :: rest → I pre W → Ax x vals a' W → body.wpIn (F.inRound l) (n - 1 - 1) P (LeftGo (Kp vals) I (pre ++ [x]) W) a' W)
    (hdone : ∀ (D : Nat) (W : World), w.heap.size ≤ D → I xs W → W.heap[D]? = some (.deferred (some [])) → Q .normal { a with defers := { target := .collected D, args := #[] } :: a.defers } W) :
    (Code.rangeFunc g ps assign body).wpIn F n P Q a w := by
  refine wpIn_rangeFunc (fun fn hfn => ?_)
  rw [hro]
  obtain ⟨R, hR⟩ : ∃ R : LoopState → Option Code → Loop, R = fun st pe => { state := st, pending := pe, fn, tmps := a.tmps, params := ps, assign, body, defers := w.heap.size } := ⟨_, rfl⟩
  obtain ⟨V, hV⟩ : ∃ V, (w.alloc (.deferred (some []))).alloc (.loop (R .ready none)) = V := ⟨_, rfl⟩
  have recV : V.heap[w.heap.size + 1]? = some (.loop (R .ready none)) := by
    rw [← hV]; have := World.alloc_heap_new (w.alloc (.deferred (some []))) (.loop (R .ready none)); rwa [World.size_alloc] at this
  have defV : V.heap[w.heap.size]? = some (.deferred (some [])) := by
    rw [← hV]; exact (Below.heap_alloc _ _ _ (by simp)).trans (World.alloc_heap_new w _)
  have iV : I [] V := by rw [← hV]; exact hI.alloc _ (hI.alloc _ h0)
  have bV : Below w.heap.size w V := by
    rw [← hV]; exact (((Below.refl _ w).alloc (Nat.le_refl _) _).alloc (by simp) _)
  refine ⟨w.heap.size + 1, [{ target := .collected w.heap.size, args := #[] }], V, { target := .fn (.func gf) lb, args := fs ++ #[.func (.yield (w.heap.size + 1)) #[] #[]] }, V, gf,
    fs ++ #[.func (.yield (w.heap.size + 1)) #[] #[]] ++ lb, V, ?_, ?_, ?_, ?_, fun _ => h1, ?_⟩
  · rw [← hV, hR]; exact run_enterLoop_outer _ _ _ _ _
  · simp only [resolve, hg]
    simp [go_sem]
  · intro f' hf'; simp [Target.leads] at hf'; subst hf'; exact hFg
  · simp [invoke, go_sem, eg]
  · refine (hseq (w.heap.size + 1)
      (fun pre W => I pre W ∧ W.heap[w.heap.size + 1]? = some (.loop (R .ready none)) ∧ W.heap[w.heap.size]? = some (.deferred (some [])))
      V bV
      (fun s A B hs hst => ⟨hIs s A B hs.1 hst, (hSt A B hst).same _ _ hs.2.1 rfl, (hSt A B hst).same _ _ hs.2.2 rfl⟩)
      (fun s A hs => hPI s A hs.1)
      ?_ ⟨iV, recV, defV⟩).mono ?_
    · rintro pre x rest W vals hx ⟨hi, hl, hk⟩ hE
      have hy := run_yield (P := P) (args := vals) hl (by rw [hR]; exact hps x W vals hE)
      rw [hR] at hy
      refine ⟨fn, _, assign, body, hy, roundIn_of_wpIn hfn (hassign _ pre x vals W _ hi hE ?_)⟩
      intro a' W' k1 kp1 i1 ax1
      have hl1 : W'.heap[w.heap.size + 1]? = some (.loop (R .ready none)) := k1.same _ _ hl rfl
      have hk1 : W'.heap[w.heap.size]? = some (.deferred (some [])) := k1.same _ _ hk rfl
      have hlt : w.heap.size + 1 < W'.heap.size := (Array.getElem?_eq_some_iff.1 hl1).1
      refine ⟨_, run_beginRound hl1 (by rw [hR]), ?_⟩
      have hl2 : (W'.putObj (w.heap.size + 1) (.loop { R .ready none with state := .busy })).heap[w.heap.size + 1]? = some (.loop { R .ready none with state := .busy }) := World.putObj_heap_same hlt
      have hk2 : (W'.putObj (w.heap.size + 1) (.loop { R .ready none with state := .busy })).heap[w.heap.size]? = some (.deferred (some [])) := (World.putObj_heap_other (by omega)).trans hk1
      have hw2 : Kp vals W (W'.putObj (w.heap.size + 1) (.loop { R .ready none with state := .busy })) := hKt kp1 (hKb _ _ _ _ _ (by omega) hl1 rfl)
      refine wpIn_mono (hbody _ pre x rest vals a' _ (by omega) ⟨_, hl2⟩ hx (hI.putObj _ i1 (by omega) hl1 rfl) ((hAx x vals a').putObj (s := ()) _ ax1 (by omega) hl1 rfl)) ?_
      have ends : ∀ (jump : Option Code) (W3 : World), KeepsOthers (W'.putObj (w.heap.size + 1) (.loop { R .ready none with state := .busy })) W3 →
          (Instr.endRound (w.heap.size + 1) jump).run P W3 = .ok (.bool jump.isNone) (W3.putObj (w.heap.size + 1) (.loop (R (if jump.isNone then .ready else .done) jump))) ∧
          W3.heap[w.heap.size + 1]? = some (.loop { R .ready none with state := .busy }) ∧
          (W3.putObj (w.heap.size + 1) (.loop (R (if jump.isNone then .ready else .done) jump))).heap[w.heap.size + 1]? = some (.loop (R (if jump.isNone then .ready else .done) jump)) ∧
          (W3.putObj (w.heap.size + 1) (.loop (R (if jump.isNone then .ready else .done) jump))).heap[w.heap.size]? = some (.deferred (some [])) := fun jump W3 k3 => by
        have hl3 := k3.same _ _ hl2 rfl
        have := run_endRound (P := P) jump hl3
        rw [hR] at this ⊢
        exact ⟨this, by rw [hR] at hl3; exact hl3, World.putObj_heap_same (Array.getElem?_eq_some_iff.1 hl3).1, (World.putObj_heap_other (by omega)).trans (k3.same _ _ hk2 rfl)⟩
      rintro e a3 W3 hp
      cases e with
      | normal =>
        obtain ⟨k3, kp3, i3⟩ := hp
        obtain ⟨hr, hl3, hl4, hk4⟩ := ends none W3 k3
        exact ⟨_, _, hr, ⟨rfl, ⟨hI.putObj _ i3 (by omega) hl3 rfl, hl4, hk4⟩, hKt (hKt hw2 kp3) (hKb _ _ _ _ _ (by omega) hl3 rfl)⟩⟩
      | ret => exact hp.elim
      | exit id => exact hp.elim
      | goto t => exact hp.elim
      | panic ch => exact hp.elim
      | outgrown => exact hp.elim
    · rintro e W2 ⟨⟨v, rfl⟩, hi, hl, hk⟩
      exact ⟨none, _, by have := run_endLoop (P := P) hl (by rw [hR]; simp); rw [hR] at this; exact this, hdone _ _ (Nat.le_refl _) (hI.putObj _ hi (by omega) hl rfl) ((World.putObj_heap_other (by omega)).trans hk)⟩
end Go.Proofs.Ytfjafmgaahfhgaa.P
namespace Go.Proofs.Ytfjafmgaahfhgaa.P
open Go.RowKit Go.Proofs.YtfjafmgaahfhgaaW.PrintWords Go.Proofs.YtfjafmgaahfhgaaW.PrintLast Go.Proofs.YtfjafmgaahfhgaaW.PrintMore
attribute [local go_sem] max2_int min2_int max_two min_two max_three min_three max_four min_four   -- for this text's walks alone
set_option linter.unusedVariables false
set_option linter.unusedSimpArgs false

attribute [local go_sem] Oper.semAt_some
/-! voices.all: the iterator as a whole -/
section
variable {P : World → Nat → Prop} {XB : Nat → Prop} {S bk bn k n l : Nat}
theorem al_grow {J : List (List Nat) → World → Prop} {xs : List (List Nat)} (hR : AlRound P XB l xs J) (hJs : ∀ s A B, J s A → AlSteps P A B → J s B) (hPI : ∀ s A, J s A → AlPI P A) (hXB : ∀ i, XB i → i < S ∧ i ≠ bk ∧ i ≠ bn) (hbk : bk < S) (hbn : bn < S) (hk1 : 1 ≤ k) (hk : k ≤ 100) (hn : n ≤ 1000) :
    ∀ (r f : Nat) (cur : List Nat) (pre rest : List (List Nat)) (W : World), cur.length + r = k → f ≤ n → xs = pre ++ alN n r f cur ++ rest → J pre W → AlSt P S bk bn k n l cur W →
    CallsIn Fence.wide 2 Try.prog 61 #[.int .i64 (f : Int), .pointer (some ⟨S + 1, 0, none⟩), .pointer (some ⟨bk, 0, none⟩), .pointer (some ⟨S, 0, none⟩), .pointer (some ⟨bn, 0, none⟩), .pointer (some ⟨S + 1 + 1, 0, none⟩)] W (AlPost P S bk bn k n l J cur (pre ++ alN n r f cur)) := by
  intro r
  induction r with
  | zero =>
    intro f cur pre rest W hc hf hx hJ hL
    exact al_end hR hJs hPI hXB hk1 hk f cur pre rest W (by omega) (by rw [hx, alN, List.append_assoc]; rfl) hJ hL
  | succ r ih =>
    intro f cur pre rest W hc hf hx hJ hL
    refine al_more hJs hPI hbk hbn hk hn f r hf cur (by omega) pre rest W hx hJ hL (fun x pre rest W _ hx2 hx3 hJ hL => ?_)
    exact ih x _ pre rest W (by rw [List.length_append, List.length_singleton]; omega) (by omega) hx3 hJ hL
end
theorem al_start {P : World → Nat → Prop} {bk bn k n : Nat} (l : Nat) (W : World) (cbk : W.cell? ⟨bk, 0, none⟩ = some (.int .i64 (k : Int))) (cbn : W.cell? ⟨bn, 0, none⟩ = some (.int .i64 (n : Int))) (hpi : AlPI P W) (t0 t1 t2 : TypeId) (W0 : World)
    (h : ((W.alloc (.cells #[.func (.yield l) #[] #[]] t0)).alloc (.cells #[.slice none 0 0] t1)).alloc (.cells #[alGrow W.heap.size bk bn] t2) = W0) :
    AlSteps P W W0 ∧ AlSt P W.heap.size bk bn k n l [] W0 := by
  subst h
  have hf : Fr (fun i => i < W.heap.size) W (((W.alloc (.cells #[.func (.yield l) #[] #[]] t0)).alloc (.cells #[.slice none 0 0] t1)).alloc (.cells #[alGrow W.heap.size bk bn] t2)) :=
    ((Fr.alloc _ _ (fun _ h => h)).trans (Fr.alloc _ _ (fun _ h => by simp only [World.size_alloc]; omega))).trans (Fr.alloc _ _ (fun _ h => by simp only [World.size_alloc]; omega))
  have hst : AlSteps P W _ := ⟨hf.mono (fun i hi => hpi.1 i hi), ((KeepsOthers.alloc _ _).trans (KeepsOthers.alloc _ _)).trans (KeepsOthers.alloc _ _)⟩
  have hiff := hpi.2 _ hst.1
  have a1 := (new_cell W (.func (.yield l) #[] #[]) t0).1
  have a2 := new_cell (W.alloc (.cells #[.func (.yield l) #[] #[]] t0)) (.slice none 0 0) t1
  have a3 := (new_cell ((W.alloc (.cells #[.func (.yield l) #[] #[]] t0)).alloc (.cells #[.slice none 0 0] t1)) (alGrow W.heap.size bk bn) t2).1
  simp only [World.size_alloc] at a2 a3
  refine ⟨hst, (hf.cell (World.block_lt_of_cell? W _ cbk) 0).trans cbk, (hf.cell (World.block_lt_of_cell? W _ cbn) 0).trans cbn, old_cell _ (old_cell _ a1), ⟨none, 0, old_cell _ a2.1, Kd.R_nil _ _ _ _ _⟩, old_frozen _ a2.1 a2.2, a3, fun i h1 _ hp => ?_⟩
  have := hpi.1 i ((hiff i).1 hp)
  omega
set_option maxHeartbeats 4000000 in
set_option maxRecDepth 100000 in
theorem all_seq {P : World → Nat → Prop} {XB : Nat → Prop} {bk bn k n : Nat} (w : World) (cbk : w.cell? ⟨bk, 0, none⟩ = some (.int .i64 (k : Int))) (cbn : w.cell? ⟨bn, 0, none⟩ = some (.int .i64 (n : Int))) (hXB : ∀ i, XB i → i < w.heap.size ∧ i ≠ bk ∧ i ≠ bn) (hk1 : 1 ≤ k) (hk : k ≤ 100) (hn : n ≤ 1000) :
    SeqFg Fence.wide 2 Try.prog 60 #[] #[.pointer (some ⟨bk, 0, none⟩), .pointer (some ⟨bn, 0, none⟩)] (AlEnc P) (alN n k 0 []) (AlSteps P) (AlKp P XB) (AlPI P) w := by
  intro l J W hW hJs hPI hY h0
  have HY := Aside0.mk hY
  have HJS := Aside0.mk hJs
  have HPI := Aside0.mk hPI
  have HJ := Aside0.mk h0
  have HXB := Aside0.mk hXB
  have HBK := Aside0.mk ((hW.cell (World.block_lt_of_cell? w _ cbk)).trans cbk)
  have HBN := Aside0.mk ((hW.cell (World.block_lt_of_cell? w _ cbn)).trans cbn)
  have hS1 := hW.size
  have hmf : ∀ (fn : Fn) (first cap : Array Value) (w : World), (Instr.makeFunc fn first cap).run Try.prog w = .ok (.func fn first cap) w := fun _ _ _ _ => rfl
  clear hW hJs hPI hY h0 hXB cbk cbn
  simp only [List.push_toArray, List.append_toArray, List.nil_append, List.cons_append]
  refine callsIn_of_wp Try.func60 rfl trivial ?_ rfl
  simp only [Try.ntmps60, List.size_toArray, List.length_cons, List.length_nil, Nat.reduceAdd, Nat.reduceSub, Array.replicate_succ, Array.replicate_zero, List.push_toArray, List.append_toArray, List.nil_append, List.cons_append]
  gi_wp2
  obtain ⟨W0, hW0⟩ : ∃ W0, ((W.alloc (.cells #[.func (.yield l) #[] #[]] 33)).alloc (.cells #[.slice none 0 0] 23)).alloc (.cells #[alGrow W.heap.size bk bn] 83) = W0 := ⟨_, rfl⟩
  obtain ⟨hst, hl⟩ := al_start (P := P) l W HBK.out HBN.out (HPI.out _ _ HJ.out) _ _ _ W0 hW0
  have hbk := World.block_lt_of_cell? W _ HBK.out
  have hbn := World.block_lt_of_cell? W _ HBN.out
  have hrun := al_grow (P := P) (XB := XB) (l := l) (J := J) (xs := alN n k 0 []) (fun pre x rest W1 vals => HY.out pre x rest W1 vals) HJS.out HPI.out (fun i hi => ⟨by have := HXB.out i hi; omega, (HXB.out i hi).2⟩) hbk hbn hk1 hk hn k 0 [] [] [] W0 (by simp) (by omega) (by simp) (HJS.out _ _ _ HJ.out hst) hl
  rw [show ((0 : Nat) : Int) = 0 from rfl] at hrun
  unfold alGrow at hW0
  rw [hW0]
  refine ⟨trivial, (callsIn_wide.2 (callsIn_wide.1 hrun)).mono ?_⟩
  rintro e w3 ⟨rfl, hj3, hl3⟩
  gi_wp2
  go_end0
  exact ⟨⟨_, rfl⟩, hj3⟩

end Go.Proofs.Ytfjafmgaahfhgaa.P
namespace Go.Proofs.Ytfjafmgaahfhgaa.P
open Go.RowKit Go.Proofs.YtfjafmgaahfhgaaW.PrintWords Go.Proofs.YtfjafmgaahfhgaaW.PrintLast Go.Proofs.YtfjafmgaahfhgaaW.PrintMore
attribute [local go_sem] max2_int min2_int max_two min_two max_three min_three max_four min_four   -- for this text's walks alone
set_option linter.unusedVariables false
set_option linter.unusedSimpArgs false

/-! ### cmp_isNaN_int: function 64 -/
def cmp_isNaN_int.f (a0 : Int) : Option (Bool) := some (a0 != a0)
set_option maxHeartbeats 8000000 in
set_option maxRecDepth 100000 in
theorem cmp_isNaN_int.calls (a0 : Int) (r : Bool) (w : World) (h : cmp_isNaN_int.f a0 = some r) :
    Calls Try.prog 64 #[.int .i64 a0] w fun e w' => e = .returned (.bool r) ∧ Drawn0 w w' := by
  have H : (some (a0 != a0)) = some r := h
  clear h
  obtain rfl := Option.some.inj H
  go_enter Try.func64, Try.ntmps64
  go_wp2
  go_ret
  exact ⟨by first | rfl | (simp; done) | (simp [*]; done), by repeat (first | exact Drawn0.refl _ | apply Drawn0.step)⟩

end Go.Proofs.Ytfjafmgaahfhgaa.P
namespace Go.Proofs.Ytfjafmgaahfhgaa.P
open Go.RowKit Go.Proofs.YtfjafmgaahfhgaaW.PrintWords Go.Proofs.YtfjafmgaahfhgaaW.PrintLast Go.Proofs.YtfjafmgaahfhgaaW.PrintMore
attribute [local go_sem] max2_int min2_int max_two min_two max_three min_three max_four min_four   -- for this text's walks alone
set_option linter.unusedVariables false
set_option linter.unusedSimpArgs false

/-! ### cmp_Compare_int: function 42 -/
def cmp_Compare_int.f (a0 : Int) (a1 : Int) : Option (Int) := (cmp_isNaN_int.f a0).bind fun t1001 => ((cmp_isNaN_int.f a1).bind fun t1002 => (if t1001 = true then (if t1002 = true then (some 0) else (some (-1))) else (if t1002 = true then (some 1) else (if a0 < a1 then (some (-1)) else (if a0 > a1 then (some 1) else (some 0))))))
set_option maxHeartbeats 8000000 in
set_option maxRecDepth 100000 in
theorem cmp_Compare_int.calls (a0 : Int) (a1 : Int) (r : Int) (w : World) (h : cmp_Compare_int.f a0 a1 = some r) :
    Calls Try.prog 42 #[.int .i64 a0, .int .i64 a1] w fun e w' => e = .returned (.int .i64 r) ∧ Drawn0 w w' := by
  have H : ((cmp_isNaN_int.f a0).bind fun t1001 => ((cmp_isNaN_int.f a1).bind fun t1002 => (if t1001 = true then (if t1002 = true then (some 0) else (some (-1))) else (if t1002 = true then (some 1) else (if a0 < a1 then (some (-1)) else (if a0 > a1 then (some 1) else (some 0))))))) = some r := h
  clear h
  replace H := Option.bind_eq_some_iff.mp H
  obtain ⟨t1001, A30, H⟩ := H
  replace H : ((cmp_isNaN_int.f a1).bind fun t1002 => (if t1001 = true then (if t1002 = true then (some 0) else (some (-1))) else (if t1002 = true then (some 1) else (if a0 < a1 then (some (-1)) else (if a0 > a1 then (some 1) else (some 0)))))) = some r := H
  have A3 := Aside0.mk A30
  clear A30
  replace H := Option.bind_eq_some_iff.mp H
  obtain ⟨t1002, A40, H⟩ := H
  replace H : (if t1001 = true then (if t1002 = true then (some 0) else (some (-1))) else (if t1002 = true then (some 1) else (if a0 < a1 then (some (-1)) else (if a0 > a1 then (some 1) else (some 0))))) = some r := H
  have A4 := Aside0.mk A40
  clear A40
  by_cases c5 : t1001 = true
  · subst c5
    have H1 : (if t1002 = true then (some 0) else (some (-1))) = some r := by rw [if_pos rfl] at H; exact H
    clear H
    have H := H1
    clear H1
    by_cases c6 : t1002 = true
    · subst c6
      have H1 : (some 0) = some r := by rw [if_pos rfl] at H; exact H
      clear H
      have H := H1
      clear H1
      obtain rfl := Option.some.inj H
      go_enter Try.func42, Try.ntmps42
      go_wp2_with (first | ((with_reducible refine gate_callee (f := 64) rfl ?_); refine goesL_ (some 8) rfl rfl Try.func64 (by kernel_rfl) rfl #[.int .i64 a0] rfl (by (try simp only [List.map_toArray, List.map_cons, List.map_nil]); first | done | rfl | (simp only [List.length_drop, List.length_take]; rfl)) ?_; (with_reducible refine (cmp_isNaN_int.calls a0 true _ A3.out).mono ?_); rintro e w' ⟨rfl, ⟨nd, rfl⟩⟩; refine ⟨_, rfl, ?_⟩) | ((with_reducible refine gate_callee (f := 64) rfl ?_); refine goesL_ (some 10) rfl rfl Try.func64 (by kernel_rfl) rfl #[.int .i64 a1] rfl (by (try simp only [List.map_toArray, List.map_cons, List.map_nil]); first | done | rfl | (simp only [List.length_drop, List.length_take]; rfl)) ?_; (with_reducible refine (cmp_isNaN_int.calls a1 true _ A4.out).mono ?_); rintro e w' ⟨rfl, ⟨nd, rfl⟩⟩; refine ⟨_, rfl, ?_⟩))
      go_ret
      exact ⟨by first | rfl | (simp; done) | (simp [*]; done), by repeat (first | exact Drawn0.refl _ | apply Drawn0.step)⟩
    · replace c6 := Bool.eq_false_iff.mpr c6
      subst c6
      have H1 : (some (-1)) = some r := by rw [if_neg (show ¬ (false = true) by decide)] at H; exact H
      clear H
      have H := H1
      clear H1
      obtain rfl := Option.some.inj H
      go_enter Try.func42, Try.ntmps42
      go_wp2_with (first | ((with_reducible refine gate_callee (f := 64) rfl ?_); refine goesL_ (some 8) rfl rfl Try.func64 (by kernel_rfl) rfl #[.int .i64 a0] rfl (by (try simp only [List.map_toArray, List.map_cons, List.map_nil]); first | done | rfl | (simp only [List.length_drop, List.length_take]; rfl)) ?_; (with_reducible refine (cmp_isNaN_int.calls a0 true _ A3.out).mono ?_); rintro e w' ⟨rfl, ⟨nd, rfl⟩⟩; refine ⟨_, rfl, ?_⟩) | ((with_reducible refine gate_callee (f := 64) rfl ?_); refine goesL_ (some 10) rfl rfl Try.func64 (by kernel_rfl) rfl #[.int .i64 a1] rfl (by (try simp only [List.map_toArray, List.map_cons, List.map_nil]); first | done | rfl | (simp only [List.length_drop, List.length_take]; rfl)) ?_; (with_reducible refine (cmp_isNaN_int.calls a1 false _ A4.out).mono ?_); rintro e w' ⟨rfl, ⟨nd, rfl⟩⟩; refine ⟨_, rfl, ?_⟩))
      go_ret
      exact ⟨by first | rfl | (simp; done) | (simp [*]; done), by repeat (first | exact Drawn0.refl _ | apply Drawn0.step)⟩
  · replace c5 := Bool.eq_false_iff.mpr c5
    subst c5
    have H1 : (if t1002 = true then (some 1) else (if a0 < a1 then (some (-1)) else (if a0 > a1 then (some 1) else (some 0)))) = some r := by rw [if_neg (show ¬ (false = true) by decide)] at H; exact H
    clear H
    have H := H1
    clear H1
    by_cases c7 : t1002 = true
    · subst c7
      have H1 : (some 1) = some r := by rw [if_pos rfl] at H; exact H
      clear H
      have H := H1
      clear H1
      obtain rfl := Option.some.inj H
      go_enter Try.func42, Try.ntmps42
      go_wp2_with (first | ((with_reducible refine gate_callee (f := 64) rfl ?_); refine goesL_ (some 8) rfl rfl Try.func64 (by kernel_rfl) rfl #[.int .i64 a0] rfl (by (try simp only [List.map_toArray, List.map_cons, List.map_nil]); first | done | rfl | (simp only [List.length_drop, List.length_take]; rfl)) ?_; (with_reducible refine (cmp_isNaN_int.calls a0 false _ A3.out).mono ?_); rintro e w' ⟨rfl, ⟨nd, rfl⟩⟩; refine ⟨_, rfl, ?_⟩) | ((with_reducible refine gate_callee (f := 64) rfl ?_); refine goesL_ (some 10) rfl rfl Try.func64 (by kernel_rfl) rfl #[.int .i64 a1] rfl (by (try simp only [List.map_toArray, List.map_cons, List.map_nil]); first | done | rfl | (simp only [List.length_drop, List.length_take]; rfl)) ?_; (with_reducible refine (cmp_isNaN_int.calls a1 true _ A4.out).mono ?_); rintro e w' ⟨rfl, ⟨nd, rfl⟩⟩; refine ⟨_, rfl, ?_⟩))
      go_ret
      exact ⟨by first | rfl | (simp; done) | (simp [*]; done), by repeat (first | exact Drawn0.refl _ | apply Drawn0.step)⟩
    · replace c7 := Bool.eq_false_iff.mpr c7
      subst c7
      have H1 : (if a0 < a1 then (some (-1)) else (if a0 > a1 then (some 1) else (some 0))) = some r := by rw [if_neg (show ¬ (false = true) by decide)] at H; exact H
      clear H
      have H := H1
      clear H1
      by_cases c8 : a0 < a1
      · rw [if_pos c8] at H
        have c8b0 : decide (a0 < a1) = true := decide_eq_true c8
        clear c8
        obtain rfl := Option.some.inj H
        go_enter Try.func42, Try.ntmps42
        go_wp2_with (first | ((with_reducible refine gate_callee (f := 64) rfl ?_); refine goesL_ (some 8) rfl rfl Try.func64 (by kernel_rfl) rfl #[.int .i64 a0] rfl (by (try simp only [List.map_toArray, List.map_cons, List.map_nil]); first | done | rfl | (simp only [List.length_drop, List.length_take]; rfl)) ?_; (with_reducible refine (cmp_isNaN_int.calls a0 false _ A3.out).mono ?_); rintro e w' ⟨rfl, ⟨nd, rfl⟩⟩; refine ⟨_, rfl, ?_⟩) | ((with_reducible refine gate_callee (f := 64) rfl ?_); refine goesL_ (some 10) rfl rfl Try.func64 (by kernel_rfl) rfl #[.int .i64 a1] rfl (by (try simp only [List.map_toArray, List.map_cons, List.map_nil]); first | done | rfl | (simp only [List.length_drop, List.length_take]; rfl)) ?_; (with_reducible refine (cmp_isNaN_int.calls a1 false _ A4.out).mono ?_); rintro e w' ⟨rfl, ⟨nd, rfl⟩⟩; refine ⟨_, rfl, ?_⟩))
        go_ret
        exact ⟨by first | rfl | (simp; done) | (simp [*]; done), by repeat (first | exact Drawn0.refl _ | apply Drawn0.step)⟩
      · rw [if_neg c8] at H
        have c8b0 : decide (a0 < a1) = false := decide_eq_false c8
        clear c8
        by_cases c9 : a0 > a1
        · rw [if_pos c9] at H
          have c9b0 : decide (a1 < a0) = true := decide_eq_true c9
          clear c9
          obtain rfl := Option.some.inj H
          go_enter Try.func42, Try.ntmps42
          go_wp2_with (first | ((with_reducible refine gate_callee (f := 64) rfl ?_); refine goesL_ (some 8) rfl rfl Try.func64 (by kernel_rfl) rfl #[.int .i64 a0] rfl (by (try simp only [List.map_toArray, List.map_cons, List.map_nil]); first | done | rfl | (simp only [List.length_drop, List.length_take]; rfl)) ?_; (with_reducible refine (cmp_isNaN_int.calls a0 false _ A3.out).mono ?_); rintro e w' ⟨rfl, ⟨nd, rfl⟩⟩; refine ⟨_, rfl, ?_⟩) | ((with_reducible refine gate_callee (f := 64) rfl ?_); refine goesL_ (some 10) rfl rfl Try.func64 (by kernel_rfl) rfl #[.int .i64 a1] rfl (by (try simp only [List.map_toArray, List.map_cons, List.map_nil]); first | done | rfl | (simp only [List.length_drop, List.length_take]; rfl)) ?_; (with_reducible refine (cmp_isNaN_int.calls a1 false _ A4.out).mono ?_); rintro e w' ⟨rfl, ⟨nd, rfl⟩⟩; refine ⟨_, rfl, ?_⟩))
          go_ret
          exact ⟨by first | rfl | (simp; done) | (simp [*]; done), by repeat (first | exact Drawn0.refl _ | apply Drawn0.step)⟩
        · rw [if_neg c9] at H
          have c9b0 : decide (a1 < a0) = false := decide_eq_false c9
          clear c9
          obtain rfl := Option.some.inj H
          go_enter Try.func42, Try.ntmps42
          go_wp2_with (first | ((with_reducible refine gate_callee (f := 64) rfl ?_); refine goesL_ (some 8) rfl rfl Try.func64 (by kernel_rfl) rfl #[.int .i64 a0] rfl (by (try simp only [List.map_toArray, List.map_cons, List.map_nil]); first | done | rfl | (simp only [List.length_drop, List.length_take]; rfl)) ?_; (with_reducible refine (cmp_isNaN_int.calls a0 false _ A3.out).mono ?_); rintro e w' ⟨rfl, ⟨nd, rfl⟩⟩; refine ⟨_, rfl, ?_⟩) | ((with_reducible refine gate_callee (f := 64) rfl ?_); refine goesL_ (some 10) rfl rfl Try.func64 (by kernel_rfl) rfl #[.int .i64 a1] rfl (by (try simp only [List.map_toArray, List.map_cons, List.map_nil]); first | done | rfl | (simp only [List.length_drop, List.length_take]; rfl)) ?_; (with_reducible refine (cmp_isNaN_int.calls a1 false _ A4.out).mono ?_); rintro e w' ⟨rfl, ⟨nd, rfl⟩⟩; refine ⟨_, rfl, ?_⟩))
          go_ret
          exact ⟨by first | rfl | (simp; done) | (simp [*]; done), by repeat (first | exact Drawn0.refl _ | apply Drawn0.step)⟩

end Go.Proofs.Ytfjafmgaahfhgaa.P
namespace Go.Proofs.Ytfjafmgaahfhgaa.P
open Go.RowKit Go.Proofs.YtfjafmgaahfhgaaW.PrintWords Go.Proofs.YtfjafmgaahfhgaaW.PrintLast Go.Proofs.YtfjafmgaahfhgaaW.PrintMore
attribute [local go_sem] max2_int min2_int max_two min_two max_three min_three max_four min_four   -- for this text's walks alone
set_option linter.unusedVariables false
set_option linter.unusedSimpArgs false

/-! ### slices_Compare_int_int: function 20 -/
def slices_Compare_int_int.l0 : Nat → List Int → List Int → List Int → Int → Int → Option (Int)
  | 0, _, _, _, _, _ => none
  | k + 1, x0, x1, x9, x10, x11 => if x11 < x10 then (if 0 ≤ x11 then (if x11 < (x9.length : Int) then (if x11 ≥ (x1.length : Int) then (some 1) else (if x11 < (x1.length : Int) then ((cmp_Compare_int.f (rd x9 x11) (rd x1 x11)).bind fun t1003 => (if t1003 = 0 then (slices_Compare_int_int.l0 k x0 x1 x9 x10 (wrap64 (x11 + 1))) else (some t1003))) else (none))) else (none)) else (none)) else (if (x0.length : Int) < (x1.length : Int) then (some (-1)) else (some 0))
def slices_Compare_int_int.f (k : Nat) (l0 : List Int) (l1 : List Int) : Option (Int) := slices_Compare_int_int.l0 k l0 l1 l0 (l0.length : Int) 0
theorem slices_Compare_int_int.mono_l : ∀ k, (∀ y0 y1 y2 y3 y4, LeO (slices_Compare_int_int.l0 k y0 y1 y2 y3 y4) (slices_Compare_int_int.l0 (k + 1) y0 y1 y2 y3 y4))
  | 0 => fun _ _ _ _ _ r h => by simp [slices_Compare_int_int.l0] at h
  | k + 1 => by
    have ih0 := slices_Compare_int_int.mono_l k
    · intro y0 y1 y2 y3 y4
      unfold slices_Compare_int_int.l0
      repeat' first
      | (with_reducible exact ih0 _ _ _ _ _)
      | (with_reducible exact LeO.refl _)
      | (with_reducible exact LeO.none _)
      | (with_reducible refine LeO.ite ?_ ?_)
      | (with_reducible refine LeO.bind ?_ (fun _ => ?_))
      | exact ih0 _ _ _ _ _
      | exact LeO.none _
      | refine LeO.ite ?_ ?_
      | refine LeO.bind ?_ (fun _ => ?_)
theorem slices_Compare_int_int.mono : ∀ a0 a1 k, LeO (slices_Compare_int_int.f k a0 a1) (slices_Compare_int_int.f (k + 1) a0 a1) := by
  intro a0 a1 k
  have ih0 := slices_Compare_int_int.mono_l k
  unfold slices_Compare_int_int.f
  repeat' first
      | (with_reducible exact ih0 _ _ _ _ _)
      | (with_reducible exact LeO.refl _)
      | (with_reducible exact LeO.none _)
      | (with_reducible refine LeO.ite ?_ ?_)
      | (with_reducible refine LeO.bind ?_ (fun _ => ?_))
      | exact ih0 _ _ _ _ _
      | exact LeO.none _
      | refine LeO.ite ?_ ?_
      | refine LeO.bind ?_ (fun _ => ?_)
set_option maxHeartbeats 8000000 in
set_option maxRecDepth 100000 in
theorem slices_Compare_int_int.calls (k : Nat) (A0 : Option Addr) (c0 : Nat) (l0 : List Int) (A1 : Option Addr) (c1 : Nat) (l1 : List Int) (r : Int) (w : World) (hr0 : Kd.C (Kd.int .i64) w A0 l0.length l0) (hc0 : l0.length ≤ c0) (hr1 : Kd.C (Kd.int .i64) w A1 l1.length l1) (hc1 : l1.length ≤ c1) (h : slices_Compare_int_int.f k l0 l1 = some r) :
    Calls Try.prog 20 #[.slice A0 l0.length c0, .slice A1 l1.length c1] w fun e w' => e = .returned (.int .i64 r) ∧ Drawn0 w w' := by
  have HR0 := Aside0.mk hr0
  have HC0 := Aside0.mk hc0
  clear hr0 hc0
  have HR1 := Aside0.mk hr1
  have HC1 := Aside0.mk hc1
  clear hr1 hc1
  have H : (slices_Compare_int_int.l0 k l0 l1 l0 (l0.length : Int) 0) = some r := h
  clear h
  have H' := Aside0.mk H
  clear H
  go_enter Try.func20, Try.ntmps20
  go_wp2
  go_loopg [11] k (fun kq v11 w' => ∃ (x11_1 : Int), v11 = .int .i64 x11_1 ∧ Aside0 (slices_Compare_int_int.l0 kq l0 l1 l0 (l0.length : Int) x11_1 = some r) ∧ Aside0 (kq ≤ k) ∧ Drawn0 w w')
  case atStart => exact ⟨(0), (by first | rfl | (simp; done) | (simp [*]; done)), H', ⟨Nat.le_refl _⟩, by repeat (first | exact Drawn0.refl _ | apply Drawn0.step)⟩
  case round =>
    clear H'
    try clear c1
    try clear c2
    try clear p2
    obtain ⟨x11_1, rfl, HA, HK1, ⟨m1, rfl⟩⟩ := hrel
    cases gk with
    | zero => exact absurd HA.out (by simp [slices_Compare_int_int.l0])
    | succ k1 =>
      have H := HA.out
      clear HA
      simp only [slices_Compare_int_int.l0] at H
      by_cases c3 : x11_1 < (l0.length : Int)
      · rw [if_pos c3] at H
        have c3b0 : decide (x11_1 < (l0.length : Int)) = true := decide_eq_true c3
        clear c3
        by_cases c4 : 0 ≤ x11_1
        · rw [if_pos c4] at H
          have c4b0 : decide (0 ≤ x11_1) = true := decide_eq_true c4
          clear c4
          by_cases c5 : x11_1 < (l0.length : Int)
          · rw [if_pos c5] at H
            have c5b0 : decide (x11_1 < (l0.length : Int)) = true := decide_eq_true c5
            clear c5
            by_cases c6 : x11_1 ≥ (l1.length : Int)
            · rw [if_pos c6] at H
              have c6b0 : decide ((l1.length : Int) ≤ x11_1) = true := decide_eq_true c6
              clear c6
              obtain rfl := Option.some.inj H
              have p1001 : 0 ≤ (x11_1 : Int) := of_decide_eq_true (by first | (with_reducible assumption) | assumption)
              have q1001 : x11_1 < (l0.length : Int) := of_decide_eq_true (by first | (with_reducible assumption) | assumption)
              obtain ⟨ad1001, e1001, hx1001_0⟩ := Kd.at_int HR0.out x11_1 p1001 q1001
              cases e1001
              replace p1001 := eq_true p1001
              replace q1001 := eq_true q1001
              go_wp2
              go_ret
              exact ⟨by first | rfl | (simp; done) | (simp [*]; done), by repeat (first | exact Drawn0.refl _ | apply Drawn0.step)⟩
            · rw [if_neg c6] at H
              have c6b0 : decide ((l1.length : Int) ≤ x11_1) = false := decide_eq_false c6
              clear c6
              by_cases c7 : x11_1 < (l1.length : Int)
              · rw [if_pos c7] at H
                have c7b0 : decide (x11_1 < (l1.length : Int)) = true := decide_eq_true c7
                clear c7
                replace H := Option.bind_eq_some_iff.mp H
                obtain ⟨t1003, A80, H⟩ := H
                replace H : (if t1003 = 0 then (slices_Compare_int_int.l0 k1 l0 l1 l0 (l0.length : Int) (wrap64 (x11_1 + 1))) else (some t1003)) = some r := H
                have A8 := Aside0.mk A80
                clear A80
                by_cases c9 : t1003 = 0
                · rw [if_pos c9] at H
                  have c9b0 : (t1003 == 0) = true := beq_iff_eq.mpr c9
                  have c9b1 : (t1003 != 0) = false := bne_eq_false_iff_eq.mpr c9
                  clear c9
                  have H' := Aside0.mk H
                  clear H
                  have p1001 : 0 ≤ (x11_1 : Int) := of_decide_eq_true (by first | (with_reducible assumption) | assumption)
                  have q1001 : x11_1 < (l0.length : Int) := of_decide_eq_true (by first | (with_reducible assumption) | assumption)
                  obtain ⟨ad1001, e1001, hx1001_0⟩ := Kd.at_int HR0.out x11_1 p1001 q1001
                  cases e1001
                  replace p1001 := eq_true p1001
                  replace q1001 := eq_true q1001
                  have p1002 : 0 ≤ (x11_1 : Int) := of_decide_eq_true (by first | (with_reducible assumption) | assumption)
                  have q1002 : x11_1 < (l1.length : Int) := of_decide_eq_true (by first | (with_reducible assumption) | assumption)
                  obtain ⟨ad1002, e1002, hx1002_0⟩ := Kd.at_int HR1.out x11_1 p1002 q1002
                  cases e1002
                  replace p1002 := eq_true p1002
                  replace q1002 := eq_true q1002
                  go_wp2_with (first | ((with_reducible refine gate_callee (f := 42) rfl ?_); refine goesL_ (some 26) rfl rfl Try.func42 (by kernel_rfl) rfl #[.int .i64 (rd l0 x11_1), .int .i64 (rd l1 x11_1)] rfl (by (try simp only [List.map_toArray, List.map_cons, List.map_nil]); first | done | rfl | (simp only [List.length_drop, List.length_take]; rfl)) ?_; (with_reducible refine (cmp_Compare_int.calls (rd l0 x11_1) (rd l1 x11_1) t1003 _ A8.out).mono ?_); rintro e w' ⟨rfl, ⟨nd, rfl⟩⟩; refine ⟨_, rfl, ?_⟩))
                  go_roundg k1
                  case measure => have := HK1.out; omega
                  case rel => exact ⟨(wrap64 (x11_1 + 1)), (by first | rfl | (simp; done) | (simp [*]; done)), H', ⟨by have := HK1.out; omega⟩, by repeat (first | exact Drawn0.refl _ | apply Drawn0.step)⟩
                · rw [if_neg c9] at H
                  have c9b0 : (t1003 == 0) = false := beq_eq_false_iff_ne.mpr c9
                  have c9b1 : (t1003 != 0) = true := bne_iff_ne.mpr c9
                  obtain rfl := Option.some.inj H
                  have p1001 : 0 ≤ (x11_1 : Int) := of_decide_eq_true (by first | (with_reducible assumption) | assumption)
                  have q1001 : x11_1 < (l0.length : Int) := of_decide_eq_true (by first | (with_reducible assumption) | assumption)
                  obtain ⟨ad1001, e1001, hx1001_0⟩ := Kd.at_int HR0.out x11_1 p1001 q1001
                  cases e1001
                  replace p1001 := eq_true p1001
                  replace q1001 := eq_true q1001
                  have p1002 : 0 ≤ (x11_1 : Int) := of_decide_eq_true (by first | (with_reducible assumption) | assumption)
                  have q1002 : x11_1 < (l1.length : Int) := of_decide_eq_true (by first | (with_reducible assumption) | assumption)
                  obtain ⟨ad1002, e1002, hx1002_0⟩ := Kd.at_int HR1.out x11_1 p1002 q1002
                  cases e1002
                  replace p1002 := eq_true p1002
                  replace q1002 := eq_true q1002
                  go_wp2_with (first | ((with_reducible refine gate_callee (f := 42) rfl ?_); refine goesL_ (some 26) rfl rfl Try.func42 (by kernel_rfl) rfl #[.int .i64 (rd l0 x11_1), .int .i64 (rd l1 x11_1)] rfl (by (try simp only [List.map_toArray, List.map_cons, List.map_nil]); first | done | rfl | (simp only [List.length_drop, List.length_take]; rfl)) ?_; (with_reducible refine (cmp_Compare_int.calls (rd l0 x11_1) (rd l1 x11_1) t1003 _ A8.out).mono ?_); rintro e w' ⟨rfl, ⟨nd, rfl⟩⟩; refine ⟨_, rfl, ?_⟩))
                  go_ret
                  exact ⟨by first | rfl | (simp; done) | (simp [*]; done), by repeat (first | exact Drawn0.refl _ | apply Drawn0.step)⟩
              · rw [if_neg c7] at H
                exact absurd H (by simp)
          · rw [if_neg c5] at H
            exact absurd H (by simp)
        · rw [if_neg c4] at H
          exact absurd H (by simp)
      · rw [if_neg c3] at H
        have c3b0 : decide (x11_1 < (l0.length : Int)) = false := decide_eq_false c3
        clear c3
        by_cases c10 : (l0.length : Int) < (l1.length : Int)
        · rw [if_pos c10] at H
          have c10b0 : decide ((l0.length : Int) < (l1.length : Int)) = true := decide_eq_true c10
          have c10b1 : decide (l0.length < l1.length) = true := decide_eq_true (Int.ofNat_lt.mp c10)
          clear c10
          obtain rfl := Option.some.inj H
          go_wp2
          go_ret
          exact ⟨by first | rfl | (simp; done) | (simp [*]; done), by repeat (first | exact Drawn0.refl _ | apply Drawn0.step)⟩
        · rw [if_neg c10] at H
          have c10b0 : decide ((l0.length : Int) < (l1.length : Int)) = false := decide_eq_false c10
          have c10b1 : decide (l0.length < l1.length) = false := decide_eq_false (fun h => c10 (Int.ofNat_lt.mpr h))
          clear c10
          obtain rfl := Option.some.inj H
          go_wp2
          go_ret
          exact ⟨by first | rfl | (simp; done) | (simp [*]; done), by repeat (first | exact Drawn0.refl _ | apply Drawn0.step)⟩

end Go.Proofs.Ytfjafmgaahfhgaa.P
namespace Go.Proofs.Ytfjafmgaahfhgaa.P
open Go.RowKit Go.Proofs.YtfjafmgaahfhgaaW.PrintWords Go.Proofs.YtfjafmgaahfhgaaW.PrintLast Go.Proofs.YtfjafmgaahfhgaaW.PrintMore
attribute [local go_sem] max2_int min2_int max_two min_two max_three min_three max_four min_four   -- for this text's walks alone
set_option linter.unusedVariables false
set_option linter.unusedSimpArgs false

/-! slices.Compare at rows of the same length -/
def cmpL : List Int → List Int → Int
  | [], _ => 0
  | _ :: _, [] => 1
  | x :: xs, y :: ys => if x < y then -1 else if x > y then 1 else cmpL xs ys
theorem cmp_f (x y : Int) : cmp_Compare_int.f x y = some (if x < y then -1 else if x > y then 1 else 0) := by
  unfold cmp_Compare_int.f cmp_isNaN_int.f
  simp only [bne_self_eq_false, Option.bind_some, Bool.false_eq_true, if_false]
  split
  · rfl
  · split <;> rfl
theorem Compare_loop (l0 l1 : List Int) (hlen : l0.length = l1.length) (hb : l0.length < 9223372036854775807) : ∀ (xs ys pre pre1 : List Int), l0 = pre ++ xs → l1 = pre1 ++ ys → pre.length = pre1.length →
    Ev (fun k => slices_Compare_int_int.l0 k l0 l1 l0 (l0.length : Int) (pre.length : Int)) (cmpL xs ys) := by
  intro xs
  induction xs with
  | nil =>
    intro ys pre pre1 h0 h1 hp
    refine Ev.succ ?_
    simp only [slices_Compare_int_int.l0, if_neg (mid_end h0), if_neg (show ¬ (l0.length : Int) < (l1.length : Int) by omega)]
    exact Ev.some 0
  | cons x xs ih =>
    intro ys pre pre1 h0 h1 hp
    cases ys with
    | nil => exfalso; have := congrArg List.length h0; have := congrArg List.length h1; simp at *; omega
    | cons y ys =>
      have r1 : rd l1 (pre.length : Int) = y := by rw [hp]; exact mid_rd h1
      have l1' : (pre.length : Int) < (l1.length : Int) := by rw [hp]; exact mid_lt h1
      refine Ev.succ ?_
      simp only [slices_Compare_int_int.l0, if_pos (mid_lt h0), if_pos (show (0 : Int) ≤ (pre.length : Int) by omega), if_pos l1', if_neg (show ¬ (pre.length : Int) ≥ (l1.length : Int) by omega), mid_rd h0, r1, mid_next h0 hb]
      refine Ev.bind_some (cmp_f x y) ?_
      have hi := ih ys (pre ++ [x]) (pre1 ++ [y]) (mid_mv h0) (mid_mv h1) (by simp [hp])
      unfold cmpL
      by_cases c1 : x < y
      · simp only [if_pos c1]
        exact Ev.some (-1)
      · simp only [if_neg c1]
        by_cases c2 : x > y
        · simp only [if_pos c2]
          exact Ev.some 1
        · simp only [if_neg c2, if_true]
          exact hi
theorem Compare_ev (l0 l1 : List Int) (hlen : l0.length = l1.length) (hb : l0.length < 9223372036854775807) : Ev (fun k => slices_Compare_int_int.f k l0 l1) (cmpL l0 l1) := by
  unfold slices_Compare_int_int.f
  exact Compare_loop l0 l1 hlen hb l0 l1 [] [] rfl rfl rfl
theorem cmpL_same : ∀ l : List Int, cmpL l l = 0
  | [] => rfl
  | x :: l => by unfold cmpL; rw [if_neg (by omega), if_neg (by omega)]; exact cmpL_same l
theorem cmpL_pre (x y : List Int) : ∀ p : List Int, cmpL (p ++ x) (p ++ y) = cmpL x y
  | [] => rfl
  | z :: p => by rw [List.cons_append, List.cons_append, cmpL, if_neg (by omega), if_neg (by omega)]; exact cmpL_pre x y p

end Go.Proofs.Ytfjafmgaahfhgaa.P
namespace Go.Proofs.Ytfjafmgaahfhgaa.P
open Go.RowKit Go.Proofs.YtfjafmgaahfhgaaW.PrintWords Go.Proofs.YtfjafmgaahfhgaaW.PrintLast Go.Proofs.YtfjafmgaahfhgaaW.PrintMore
attribute [local go_sem] max2_int min2_int max_two min_two max_three min_three max_four min_four   -- for this text's walks alone
set_option linter.unusedVariables false
set_option linter.unusedSimpArgs false

/-! voices.nearest.see: the first voicing with the least cost -/
def seeS (st : Option (List Int × Int)) (v : List Int) (c : Int) : Option (List Int × Int) := match st with
  | none => some (v, c)
  | some (w, d) => if c < d ∨ (c = d ∧ cmpL v w < 0) then some (v, c) else some (w, d)
def SeeJ (S base : Nat) (st : Option (List Int × Int)) (W : World) : Prop := W.frozen? ⟨S, 0, none⟩ = false ∧ W.frozen? ⟨S, 1, none⟩ = false ∧ match st with
  | none => W.cell? ⟨S, 0, none⟩ = some (.slice none 0 0) ∧ W.cell? ⟨S, 1, none⟩ = some (.int .i64 0)
  | some (v, c) => ∃ ad cap, W.cell? ⟨S, 0, none⟩ = some (.slice (some ad) v.length cap) ∧ W.cell? ⟨S, 1, none⟩ = some (.int .i64 c) ∧ Kd.R (Kd.int .i64) 3 W base (fun i => i ≠ S) (.slice (some ad) v.length cap) v
def SeePost (S base : Nat) (st : Option (List Int × Int)) (W : World) (e : Ending) (W' : World) : Prop := (∃ u, e = .returned u) ∧ SeeJ S base st W' ∧ Fr (fun i => i ≠ S ∧ i < W.heap.size) W W'
def SeePostY (S base : Nat) (st : Option (List Int × Int)) (y : Value) (W : World) (e : Ending) (W' : World) : Prop := SeePost S base st W e W' ∧ (W'.cell? ⟨S, 0, none⟩ = W.cell? ⟨S, 0, none⟩ ∨ W'.cell? ⟨S, 0, none⟩ = some y)
theorem cell_other {W : World} {S i j : Nat} {x u : Value} (h : i ≠ j) (hc : W.cell? ⟨S, j, none⟩ = some u) : (W.setCell ⟨S, i, none⟩ x).cell? ⟨S, j, none⟩ = some u := (World.cell?_setCell_other _ _ _ _ (fun e => h (by injection e))).trans hc
theorem see_kept {S base : Nat} {v : List Int} {c : Int} {ad : Addr} {cap : Nat} {W : World} {x0 x1 : Value} (h0 : W.cell? ⟨S, 0, none⟩ = some x0) (h1 : W.cell? ⟨S, 1, none⟩ = some x1) (f0 : W.frozen? ⟨S, 0, none⟩ = false) (f1 : W.frozen? ⟨S, 1, none⟩ = false) (hR : Kd.R (Kd.int .i64) 3 W base (fun i => i ≠ S) (.slice (some ad) v.length cap) v) :
    SeeJ S base (some (v, c)) ((W.setCell ⟨S, 0, none⟩ (.slice (some ad) v.length cap)).setCell ⟨S, 1, none⟩ (.int .i64 c)) ∧ Fr (fun i => i ≠ S ∧ i < W.heap.size) W ((W.setCell ⟨S, 0, none⟩ (.slice (some ad) v.length cap)).setCell ⟨S, 1, none⟩ (.int .i64 c)) ∧ ((W.setCell ⟨S, 0, none⟩ (.slice (some ad) v.length cap)).setCell ⟨S, 1, none⟩ (.int .i64 c)).cell? ⟨S, 0, none⟩ = some (.slice (some ad) v.length cap) := by
  have hc0 : ((W.setCell ⟨S, 0, none⟩ (.slice (some ad) v.length cap)).setCell ⟨S, 1, none⟩ (.int .i64 c)).cell? ⟨S, 0, none⟩ = some (.slice (some ad) v.length cap) := cell_other (by decide) (World.cell?_setCell_same' _ _ _ (by rw [h0]; rfl))
  refine ⟨⟨?_, ?_, ad, cap, hc0, ?_, ?_⟩, (Fr.setCell _ _ (fun h => h.1 rfl)).trans (Fr.setCell _ _ (fun h => h.1 rfl)), hc0⟩
  · rw [World.frozen?_setCell, World.frozen?_setCell]; exact f0
  · rw [World.frozen?_setCell, World.frozen?_setCell]; exact f1
  · exact World.cell?_setCell_same' _ _ _ (by rw [cell_other (by decide) h1]; rfl)
  · exact Kd.R_far (Kd.R_far hR (fun i hi => hi) _) (fun i hi => hi) _
set_option maxHeartbeats 4000000 in
set_option maxRecDepth 100000 in
theorem see_first {S base : Nat} {v : List Int} {c : Int} {ad : Addr} {cap : Nat} {W : World} (hJ : SeeJ S base none W) (hR : Kd.R (Kd.int .i64) 3 W base (fun i => i ≠ S) (.slice (some ad) v.length cap) v) :
    Calls Try.prog 40 #[.pointer (some ⟨S, 0, none⟩), .slice (some ad) v.length cap, .int .i64 c] W (SeePostY S base (some (v, c)) (.slice (some ad) v.length cap) W) := by
  obtain ⟨f0, f1, c0, c1⟩ := hJ
  have HK := Aside0.mk (see_kept (c := c) c0 c1 f0 f1 hR)
  have q22 : ∀ (w : World) (a : Option Addr) (n c n' c' : Nat), (binOp .eql 23 (.slice a n c) (.slice none n' c')).run Try.prog w = .ok (.bool a.isNone) w := fun w a n c n' c' => Lib.run_eql_slice_nil w _ _ a n c n' c' Try.underlying23
  generalize hL : v.length = L at HK ⊢
  clear hR hL
  go_enter Try.func40, Try.ntmps40
  go_wp2
  go_end0
  exact ⟨⟨⟨_, rfl⟩, HK.out.1, HK.out.2.1⟩, .inr HK.out.2.2⟩
set_option maxHeartbeats 4000000 in
set_option maxRecDepth 100000 in
theorem see_next {S base : Nat} {v w0 : List Int} {c d : Int} {ad : Addr} {cap : Nat} {W : World} (hJ : SeeJ S base (some (w0, d)) W) (hR : Kd.R (Kd.int .i64) 3 W base (fun i => i ≠ S) (.slice (some ad) v.length cap) v) (hl : v.length = w0.length) (hv : v.length ≤ 1000) :
    Calls Try.prog 40 #[.pointer (some ⟨S, 0, none⟩), .slice (some ad) v.length cap, .int .i64 c] W (SeePostY S base (seeS (some (w0, d)) v c) (.slice (some ad) v.length cap) W) := by
  have HJ := Aside0.mk hJ
  obtain ⟨f0, f1, aw, cw, c0, c1, hRw⟩ := hJ
  have HK := Aside0.mk (see_kept (c := c) c0 c1 f0 f1 hR)
  obtain ⟨k, hk⟩ := Ev.rounds (g := fun k => slices_Compare_int_int.f k v w0) (Compare_ev v w0 hl (by omega))
  have hv1 := Kd.R_reads' hR
  have hw1 := Kd.R_reads' hRw
  have hcmp := fun (W' : World) (hb : Below W.heap.size W W') => slices_Compare_int_int.calls k (some ad) cap v (some aw) cw w0 (cmpL v w0) W' (Kd.C_below hv1.2.2 hb) hv1.2.1 (Kd.C_below hw1.2.2 hb) hw1.2.1 hk
  have q22 : ∀ (w : World) (a : Option Addr) (n c n' c' : Nat), (binOp .eql 23 (.slice a n c) (.slice none n' c')).run Try.prog w = .ok (.bool a.isNone) w := fun w a n c n' c' => Lib.run_eql_slice_nil w _ _ a n c n' c' Try.underlying23
  have hSS : seeS (some (w0, d)) v c = if c < d ∨ (c = d ∧ cmpL v w0 < 0) then some (v, c) else some (w0, d) := rfl
  have C0 := Aside0.mk c0
  have C1 := Aside0.mk c1
  have F0 := Aside0.mk f0
  have F1 := Aside0.mk f1
  have HRV := Aside0.mk hR
  have HRW := Aside0.mk hRw
  rw [← hl] at c0 hcmp
  obtain ⟨L, hL'⟩ : ∃ L, v.length = L := ⟨_, rfl⟩
  rw [hL'] at HK hcmp c0 ⊢
  have C0L := Aside0.mk c0
  have hL : True := trivial
  have HCMP := Aside0.mk hcmp
  have HS := Aside0.mk hSS
  clear hR hL hRw hk hv1 hw1 hcmp hSS hl
  by_cases hlt : c < d
  · have q1 : decide (c < d) = true := decide_eq_true hlt
    rw [if_pos (.inl hlt)] at HS
    clear hlt
    go_enter Try.func40, Try.ntmps40
    go_wp2
    go_end0
    rw [HS.out]
    exact ⟨⟨⟨_, rfl⟩, HK.out.1, HK.out.2.1⟩, .inr HK.out.2.2⟩
  · have q1 : decide (c < d) = false := decide_eq_false hlt
    by_cases heq : c = d
    · have q2 : (c == d) = true := beq_iff_eq.2 heq
      obtain ⟨z, hz⟩ : ∃ z, cmpL v w0 = z := ⟨_, rfl⟩
      rw [hz] at HCMP HS
      by_cases hneg : z < 0
      · have q3 : decide (z < 0) = true := decide_eq_true hneg
        rw [if_pos (.inr ⟨heq, hneg⟩)] at HS
        clear hlt heq hneg hz
        go_enter Try.func40, Try.ntmps40
        go_wp2_with fail
        refine (HCMP.out _ (Below.refl _ _)).mono ?_
        rintro e w2 ⟨rfl, hd⟩
        obtain ⟨q, rfl⟩ := hd
        have HK2 := Aside0.mk (see_kept (c := c) (W := W.drewN q) (S := S) C0.out C1.out F0.out F1.out (Kd.R_below HRV.out (pw_below_drewN (Below.refl _ _) q)))
        have k0 : (W.drewN q).cell? ⟨S, 0, none⟩ = _ := C0L.out
        have k1 : (W.drewN q).cell? ⟨S, 1, none⟩ = _ := C1.out
        have z0 : (W.drewN q).frozen? ⟨S, 0, none⟩ = false := F0.out
        have z1 : (W.drewN q).frozen? ⟨S, 1, none⟩ = false := F1.out
        have HFR := Aside0.mk (Fr.drewN (fun i => i ≠ S ∧ i < W.heap.size) W q)
        have HJ2 := Aside0.mk (show SeeJ S base (some (w0, d)) (W.drewN q) from ⟨F0.out, F1.out, _, _, C0.out, C1.out, Kd.R_below HRW.out (pw_below_drewN (Below.refl _ _) q)⟩)
        rw [hL'] at HK2
        generalize W.drewN q = w2 at HK2 k0 k1 z0 z1 HFR HJ2 ⊢
        clear c0 c1 f0 f1
        go_wp2
        go_end0
        rw [HS.out]
        exact ⟨⟨⟨_, rfl⟩, HK2.out.1, HFR.out.trans (HK2.out.2.1.mono (fun k hk => ⟨hk.1, Nat.lt_of_lt_of_le hk.2 HFR.out.size⟩))⟩, .inr HK2.out.2.2⟩
      · have q3 : decide (z < 0) = false := decide_eq_false hneg
        rw [if_neg (fun h => h.elim hlt (fun h => hneg h.2))] at HS
        clear hlt heq hneg hz
        go_enter Try.func40, Try.ntmps40
        go_wp2_with fail
        refine (HCMP.out _ (Below.refl _ _)).mono ?_
        rintro e w2 ⟨rfl, hd⟩
        obtain ⟨q, rfl⟩ := hd
        have HK2 := Aside0.mk (see_kept (c := c) (W := W.drewN q) (S := S) C0.out C1.out F0.out F1.out (Kd.R_below HRV.out (pw_below_drewN (Below.refl _ _) q)))
        have k0 : (W.drewN q).cell? ⟨S, 0, none⟩ = _ := C0L.out
        have k1 : (W.drewN q).cell? ⟨S, 1, none⟩ = _ := C1.out
        have z0 : (W.drewN q).frozen? ⟨S, 0, none⟩ = false := F0.out
        have z1 : (W.drewN q).frozen? ⟨S, 1, none⟩ = false := F1.out
        have HFR := Aside0.mk (Fr.drewN (fun i => i ≠ S ∧ i < W.heap.size) W q)
        have HJ2 := Aside0.mk (show SeeJ S base (some (w0, d)) (W.drewN q) from ⟨F0.out, F1.out, _, _, C0.out, C1.out, Kd.R_below HRW.out (pw_below_drewN (Below.refl _ _) q)⟩)
        rw [hL'] at HK2
        generalize W.drewN q = w2 at HK2 k0 k1 z0 z1 HFR HJ2 ⊢
        clear c0 c1 f0 f1
        go_wp2
        go_end0
        rw [HS.out]
        exact ⟨⟨⟨_, rfl⟩, HJ2.out, HFR.out⟩, .inl (k0.trans C0L.out.symm)⟩
    · have q2 : (c == d) = false := beq_eq_false_iff_ne.2 heq
      rw [if_neg (fun h => h.elim hlt (fun h => heq h.1))] at HS
      clear hlt heq
      go_enter Try.func40, Try.ntmps40
      go_wp2
      go_end0
      rw [HS.out]
      exact ⟨⟨⟨_, rfl⟩, HJ.out, Fr.refl _ _⟩, .inl rfl⟩
theorem see_callsY {S base : Nat} {st : Option (List Int × Int)} {v : List Int} {c : Int} {ad : Addr} {cap : Nat} {W : World} (hJ : SeeJ S base st W) (hR : Kd.R (Kd.int .i64) 3 W base (fun i => i ≠ S) (.slice (some ad) v.length cap) v) (hl : ∀ w0 d, st = some (w0, d) → v.length = w0.length) (hv : v.length ≤ 1000) :
    Calls Try.prog 40 #[.pointer (some ⟨S, 0, none⟩), .slice (some ad) v.length cap, .int .i64 c] W (SeePostY S base (seeS st v c) (.slice (some ad) v.length cap) W) := by
  cases st with
  | none => exact see_first hJ hR
  | some p => obtain ⟨w0, d⟩ := p; exact see_next hJ hR (hl w0 d rfl) hv
theorem see_calls {S base : Nat} {st : Option (List Int × Int)} {v : List Int} {c : Int} {ad : Addr} {cap : Nat} {W : World} (hJ : SeeJ S base st W) (hR : Kd.R (Kd.int .i64) 3 W base (fun i => i ≠ S) (.slice (some ad) v.length cap) v) (hl : ∀ w0 d, st = some (w0, d) → v.length = w0.length) (hv : v.length ≤ 1000) :
    Calls Try.prog 40 #[.pointer (some ⟨S, 0, none⟩), .slice (some ad) v.length cap, .int .i64 c] W (SeePost S base (seeS st v c) W) :=
  (see_callsY hJ hR hl hv).mono (fun _ _ h => h.1)

end Go.Proofs.Ytfjafmgaahfhgaa.P
namespace Go.Proofs.Ytfjafmgaahfhgaa.P
open Go.RowKit Go.Proofs.YtfjafmgaahfhgaaW.PrintWords Go.Proofs.YtfjafmgaahfhgaaW.PrintLast Go.Proofs.YtfjafmgaahfhgaaW.PrintMore
attribute [local go_sem] max2_int min2_int max_two min_two max_three min_three max_four min_four   -- for this text's walks alone
set_option linter.unusedVariables false
set_option linter.unusedSimpArgs false

attribute [local go_sem] Oper.semAt_some
/-! voices.Middle: the first of the voicings with the least sum of costs -/
def costL (n : Int) (v : List Int) (ls : List (List Int)) : Int := ls.foldl (fun c l => wrap64 (c + (bestV n v l).2)) 0
theorem costL_snoc (n : Int) (v : List Int) (ls : List (List Int)) (l : List Int) : costL n v (ls ++ [l]) = wrap64 (costL n v ls + (bestV n v l).2) := by unfold costL; rw [List.foldl_append]; rfl
def midF (n : Int) (ls : List (List Int)) (L : List (List Nat)) : Option (List Int × Int) := L.foldl (fun st v => seeS st (nums v) (costL n (nums v) ls)) none
theorem midF_snoc (n : Int) (ls : List (List Int)) (L : List (List Nat)) (v : List Nat) : midF n ls (L ++ [v]) = seeS (midF n ls L) (nums v) (costL n (nums v) ls) := by unfold midF; rw [List.foldl_append]; rfl
def VcsN (n k : Int) (ls : List (List Int)) : Prop := n ≤ 12 ∧ 1 ≤ k ∧ k ≤ 3 ∧ 1 ≤ ls.length ∧ ls.length ≤ 8 ∧ ((ls.getD 0 []).length : Int) = k ∧ 2 ≤ n ∧ n ≤ 16 ∧ ∀ v ∈ ls, VoiN n v ∧ v.length = (ls.getD 0 []).length
instance (n k : Int) (ls : List (List Int)) : Decidable (VcsN n k ls) := by unfold VcsN; infer_instance
theorem alN_mem {n k : Nat} : ∀ (r f : Nat) (cur : List Nat), f ≤ n → (∀ y ∈ cur, y < n) → cur.length + r = k → ∀ v ∈ alN n r f cur, v.length = k ∧ ∀ y ∈ v, y < n
  | 0, f, cur, _, hc, hk, v, hv => by
    rw [alN, List.mem_singleton] at hv
    subst hv
    exact ⟨by omega, hc⟩
  | r + 1, f, cur, hf, hc, hk, v, hv => by
    rw [alN] at hv
    obtain ⟨i, hi, h⟩ := List.mem_flatMap.1 hv
    rw [List.mem_range] at hi
    refine alN_mem r (f + i) (cur ++ [f + i]) (by omega) (fun y hy => ?_) (by simp; omega) v h
    rcases List.mem_append.1 hy with h | h
    · exact hc y h
    · rw [List.mem_singleton] at h; omega
theorem midF_len {n : Int} {ls : List (List Int)} {m : Nat} : ∀ (L : List (List Nat)), (∀ v ∈ L, v.length = m) → ∀ w d, midF n ls L = some (w, d) → w.length = m := by
  intro L
  have key : ∀ (L : List (List Nat)) (st : Option (List Int × Int)), (∀ v ∈ L, v.length = m) → (∀ w d, st = some (w, d) → w.length = m) → ∀ w d, L.foldl (fun st v => seeS st (nums v) (costL n (nums v) ls)) st = some (w, d) → w.length = m := by
    intro L
    induction L with
    | nil => intro st _ hs w d h; exact hs w d h
    | cons v L ih =>
      intro st hL hs w d h
      rw [List.foldl_cons] at h
      refine ih _ (fun v hv => hL v (by simp [hv])) (fun w d h => ?_) w d h
      have hv := hL v (by simp)
      have hv2 : (nums v).length = m := by rw [nums_length]; exact hv
      cases st with
      | none => simp only [seeS, Option.some.injEq, Prod.mk.injEq] at h; rw [← h.1]; exact hv2
      | some p =>
        obtain ⟨w0, d0⟩ := p
        simp only [seeS] at h
        split at h
        · simp only [Option.some.injEq, Prod.mk.injEq] at h; rw [← h.1]; exact hv2
        · simp only [Option.some.injEq, Prod.mk.injEq] at h; rw [← h.1]; exact hs w0 d0 rfl
  exact fun hL w d h => key L none hL (fun _ _ e => by cases e) w d h
theorem all_calls (n k : Int) (w : World) : Calls Try.prog 37 #[.int .i64 n, .int .i64 k] w fun e w' => e = .returned (.func (.func 60) #[] #[.pointer (some ⟨w.heap.size + 1, 0, none⟩), .pointer (some ⟨w.heap.size, 0, none⟩)]) ∧ w' = (w.alloc (.cells #[.int .i64 n] 59)).alloc (.cells #[.int .i64 k] 3) := by
  have hmf : ∀ (fn : Fn) (first cap : Array Value) (w : World), (Instr.makeFunc fn first cap).run Try.prog w = .ok (.func fn first cap) w := fun _ _ _ _ => rfl
  go_enter Try.func37, Try.ntmps37
  go_wp2
  go_ret
  exact ⟨rfl, rfl⟩
section
/-- what the rounds go by -/
def MidP (B bb : Nat) (A : World) (i : Nat) : Prop := i < B ∨ ∃ v, A.cell? ⟨bb, 0, none⟩ = some v ∧ v.ownBlock = some i
def MidI (n : Int) (ls : List (List Int)) (B bb : Nat) (W5 : World) (pre : List (List Nat)) (W : World) : Prop := SeeJ bb B (midF n ls pre) W ∧ Fr (fun i => i < B ∧ i ≠ bb) W5 W ∧ B ≤ W.heap.size
theorem mid_cell {n : Int} {ls : List (List Int)} {B bb : Nat} {W5 W : World} {pre : List (List Nat)} (h : MidI n ls B bb W5 pre W) : ∃ v, W.cell? ⟨bb, 0, none⟩ = some v ∧ ∀ i, v.ownBlock = some i → i < W.heap.size := by
  obtain ⟨⟨_, _, hst⟩, _⟩ := h
  cases hm : midF n ls pre with
  | none => rw [hm] at hst; exact ⟨_, hst.1, fun i e => by cases e⟩
  | some p =>
    obtain ⟨v, c⟩ := p
    rw [hm] at hst
    obtain ⟨ad, cap, c0, _, hR⟩ := hst
    exact ⟨_, c0, Kd.R_lt hR⟩
theorem mid_pi {n : Int} {ls : List (List Int)} {B bb : Nat} {W5 W : World} {pre : List (List Nat)} (hbb : bb < B) (h : MidI n ls B bb W5 pre W) : AlPI (MidP B bb) W := by
  obtain ⟨v, hv, hlt⟩ := mid_cell h
  refine ⟨fun i hi => ?_, fun W' hf i => ?_⟩
  · rcases hi with hi | ⟨u, hu, hi⟩
    · have := h.2.2; omega
    · rw [hv] at hu; injection hu with hu; subst hu; exact hlt i hi
  · have hc := hf.cell (.inl hbb) 0
    unfold MidP
    rw [hc]
end

end Go.Proofs.Ytfjafmgaahfhgaa.P
