/- A part of a proof that a law's Go function returns true for every input, laid by this session's program mp.py (which drives the kit's print). Conditions: as each theorem states them. -/
import Derived.RangeFuncNested
import Derived.RangeFuncBound
import Derived.RangeFuncCalls
import Derived.RangeFuncLeaves
import Derived.Shelf.Abstract
import Derived.Shelf.RegionOpen
import Derived.Shelf.AbstractIn
import Derived.Sort.QuietIn
import Derived.OwnWalkIn
import Derived.TacticsInMore
import Derived.LoopNIn
import Derived.LoopIn
import Derived.Stop.RegionWithIn
import Derived.StillTailTactics
import Derived.Laws.EntriesVeiled
import Derived.Maps.OwnIn
import Derived.Test.YtfjafmgaahfhgaaCVoicesAlone1
import Derived.Test.YtfjafmgaahfhgaaCVoicesAlone2
import Derived.Test.YtfjafmgaahfhgaaCVoicesAlone3
namespace Go.Proofs.Ytfjafmgaahfhgaa.P
open Go.RowKit Go.Proofs.YtfjafmgaahfhgaaW.PrintWords Go.Proofs.YtfjafmgaahfhgaaW.PrintLast Go.Proofs.YtfjafmgaahfhgaaW.PrintMore
attribute [local go_sem] max2_int min2_int max_two min_two max_three min_three max_four min_four   -- for this text's walks alone
set_option linter.unusedVariables false
set_option linter.unusedSimpArgs false

attribute [local go_sem] Oper.semAt_some
/-! voices.Middle: the walk -/
theorem mid_new (w : World) (n k : Int) (A : Option Addr) (m c : Nat) (t1 t2 t3 t4 t5 : TypeId) (q : Nat) (W5 : World)
    (h : (((((w.alloc (.cells #[.slice A m c] t1)).alloc (.cells #[.int .i64 n] t2)).drewN q).alloc (.cells #[.slice none 0 0, .int .i64 0] t3)).alloc (.cells #[.int .i64 n] t4)).alloc (.cells #[.int .i64 k] t5) = W5) :
    BoxAt W5 w.heap.size [.slice A m c] ∧ BoxAt W5 (w.heap.size + 1) [.int .i64 n] ∧ BoxAt W5 (w.heap.size + 2) [.slice none 0 0, .int .i64 0] ∧ BoxAt W5 (w.heap.size + 3) [.int .i64 n] ∧ BoxAt W5 (w.heap.size + 4) [.int .i64 k] ∧ W5.heap.size = w.heap.size + 5 ∧ Below w.heap.size w W5 := by
  subst h
  have a1 := BoxAt.new w [.slice A m c] t1
  have a2 := BoxAt.new (w.alloc (.cells #[.slice A m c] t1)) [.int .i64 n] t2
  have a3 := BoxAt.new (((w.alloc (.cells #[.slice A m c] t1)).alloc (.cells #[.int .i64 n] t2)).drewN q) [.slice none 0 0, .int .i64 0] t3
  have a4 := BoxAt.new ((((w.alloc (.cells #[.slice A m c] t1)).alloc (.cells #[.int .i64 n] t2)).drewN q).alloc (.cells #[.slice none 0 0, .int .i64 0] t3)) [.int .i64 n] t4
  have a5 := BoxAt.new (((((w.alloc (.cells #[.slice A m c] t1)).alloc (.cells #[.int .i64 n] t2)).drewN q).alloc (.cells #[.slice none 0 0, .int .i64 0] t3)).alloc (.cells #[.int .i64 n] t4)) [.int .i64 k] t5
  have e2 : (w.alloc (.cells #[.slice A m c] t1)).heap.size = w.heap.size + 1 := by simp
  have e3 : (((w.alloc (.cells #[.slice A m c] t1)).alloc (.cells #[.int .i64 n] t2)).drewN q).heap.size = w.heap.size + 2 := by show ((w.alloc (.cells #[.slice A m c] t1)).alloc (.cells #[.int .i64 n] t2)).heap.size = _; simp
  have e4 : ((((w.alloc (.cells #[.slice A m c] t1)).alloc (.cells #[.int .i64 n] t2)).drewN q).alloc (.cells #[.slice none 0 0, .int .i64 0] t3)).heap.size = w.heap.size + 3 := by rw [World.size_alloc, e3]
  have e5 : (((((w.alloc (.cells #[.slice A m c] t1)).alloc (.cells #[.int .i64 n] t2)).drewN q).alloc (.cells #[.slice none 0 0, .int .i64 0] t3)).alloc (.cells #[.int .i64 n] t4)).heap.size = w.heap.size + 4 := by rw [World.size_alloc, e4]
  rw [e2] at a2
  rw [e3] at a3
  rw [e4] at a4
  rw [e5] at a5
  refine ⟨((((a1.alloc _).drewN q).alloc _).alloc _).alloc _, (((a2.drewN q).alloc _).alloc _).alloc _, (a3.alloc _).alloc _, a4.alloc _, a5, by rw [World.size_alloc, e5], ?_⟩
  have b2 : Below w.heap.size w ((w.alloc (.cells #[.slice A m c] t1)).alloc (.cells #[.int .i64 n] t2)) := below_alloc (below_alloc (Below.refl _ _) _) _
  exact below_alloc (below_alloc (below_alloc (pw_below_drewN b2 q) _) _) _
theorem R_rebase {e base base' : Nat} {W : World} {ok : Nat → Prop} {v : Value} {xs : List Int} (h : Kd.R (Kd.int .i64) e W base ok v xs) (hb : ∀ k, v.ownBlock = some k → base' ≤ k) : Kd.R (Kd.int .i64) e W base' ok v xs := by
  have ho := Kd.own_of_R h
  refine Kd.R_of_own (h1 := fun _ => rfl) ?_ h.1
  obtain ⟨h1, h2⟩ := ho
  refine ⟨h1, ?_⟩
  rcases h2 with h2 | ⟨g, cap, cur, rfl, hg, hh, r⟩
  · exact .inl h2
  · exact .inr ⟨g, cap, cur, rfl, hb g rfl, hh, r⟩
theorem see_own {S base : Nat} {st : Option (List Int × Int)} {W W' : World} (h : SeeJ S base st W) (hh : ∀ i, (i = S ∨ ∃ v, W.cell? ⟨S, 0, none⟩ = some v ∧ v.ownBlock = some i) → W'.heap[i]? = W.heap[i]?) : SeeJ S base st W' := by
  have hS := hh S (.inl rfl)
  have hc : ∀ j, W'.cell? ⟨S, j, none⟩ = W.cell? ⟨S, j, none⟩ := fun j => by unfold World.cell?; simp only [hS]
  have hf : ∀ j, W'.frozen? ⟨S, j, none⟩ = W.frozen? ⟨S, j, none⟩ := fun j => by unfold World.frozen?; simp only [hS]
  obtain ⟨f0, f1, hst⟩ := h
  cases st with
  | none => exact ⟨(hf 0).trans f0, (hf 1).trans f1, (hc 0).trans hst.1, (hc 1).trans hst.2⟩
  | some p =>
    obtain ⟨v, c⟩ := p
    obtain ⟨ad, cap, c0, c1, hR⟩ := hst
    have h2 := Kd.R_move (w1 := W') (Kd.R_tight rfl hR) (fun i hi => hh i (.inr ⟨_, c0, hi.symm⟩))
    exact ⟨(hf 0).trans f0, (hf 1).trans f1, ad, cap, (hc 0).trans c0, (hc 1).trans c1, Kd.R_mono h2 (fun i hi => hR.1 i hi.symm)⟩
theorem see_typed {S base : Nat} {st : Option (List Int × Int)} {W : World} (h : SeeJ S base st W) {i : Nat} (hi : ∃ v, W.cell? ⟨S, 0, none⟩ = some v ∧ v.ownBlock = some i) : ∃ o, W.heap[i]? = some o ∧ o.isCells = true := by
  obtain ⟨v, hv, hi⟩ := hi
  obtain ⟨_, _, hst⟩ := h
  cases st with
  | none => rw [hst.1] at hv; injection hv with hv; subst hv; cases hi
  | some p =>
    obtain ⟨u, c⟩ := p
    obtain ⟨ad, cap, c0, c1, hR⟩ := hst
    rw [c0] at hv; injection hv with hv; subst hv
    obtain ⟨cells, hc⟩ := own_typed (Kd.own_of_R hR) i hi
    exact ⟨_, hc, rfl⟩
theorem mid_put {B bb l i : Nat} {W : World} {o : Obj} (hb : bb ≠ l) (h : MidP B bb (W.putObj l o) i) : MidP B bb W i := by
  rcases h with h | ⟨v, hv, hi⟩
  · exact .inl h
  · refine .inr ⟨v, ?_, hi⟩
    have e : (W.putObj l o).heap[bb]? = W.heap[bb]? := World.putObj_heap_other (by omega)
    unfold World.cell? at hv ⊢
    simp only [e] at hv; exact hv
theorem mid_own {n : Int} {ls : List (List Int)} {B bb : Nat} {W5 : World} (hbb : bb < B) : OwnFrom B (MidI n ls B bb W5) := by
  rintro s A C row ⟨h1, h2, h3⟩ hg hr
  refine ⟨see_own h1 (fun i hi => ?_), h2.trans (Fr.grown hg (fun i hi => by omega) (fun i hi hp => by have := (hr i hi).1; omega)), Nat.le_trans h3 hg.size⟩
  rcases hi with rfl | hi
  · exact hg.block _ (by omega) (fun e => by have := (hr _ e.symm).1; omega)
  · obtain ⟨o, ho, hc⟩ := see_typed h1 hi
    refine hg.block i (Array.getElem?_eq_some_iff.1 ho).1 (fun e => ?_)
    obtain ⟨_, o2, ho2, hc2⟩ := hr i e.symm
    rw [ho] at ho2; injection ho2 with ho2; subst ho2; rw [hc] at hc2; cases hc2
theorem mid_st {n : Int} {ls : List (List Int)} {B bb : Nat} {W5 : World} (hbb : bb < B) {s : List (List Nat)} {A C : World} (h : MidI n ls B bb W5 s A) (hst : AlSteps (MidP B bb) A C) : MidI n ls B bb W5 s C :=
  ⟨see_own h.1 (fun i hi => hst.1.block i (hi.elim (fun e => .inl (by omega)) (fun e => .inr e))), h.2.1.trans (hst.1.mono (fun i hi => .inl hi.1)), Nat.le_trans h.2.2 hst.1.size⟩
theorem enc_own {B bb : Nat} (hbb : bb < B) (x : List Nat) (vals : Array Value) : OwnFrom B (fun (_ : Unit) W => B ≤ W.heap.size ∧ AlEnc (MidP B bb) x W vals) := by
  rintro s A C row ⟨hs, ad, c, b, rfl, hR, ht⟩ hg hr
  refine ⟨Nat.le_trans hs hg.size, ad, c, b, rfl, ?_, ht⟩
  have h2 := Kd.R_move (w1 := C) (Kd.R_tight rfl hR) (fun i hi => by
    obtain ⟨cells, hc⟩ := own_typed (Kd.own_of_R hR) i hi.symm
    refine hg.block i (Array.getElem?_eq_some_iff.1 hc).1 (fun e => ?_)
    obtain ⟨_, o2, ho2, hc2⟩ := hr i e.symm
    rw [hc] at ho2; injection ho2 with ho2; subst ho2; cases hc2)
  refine Kd.R_mono h2 (fun i hi hp => hR.1 i hi.symm ?_)
  rcases hp with hp | ⟨v, hv, hi2⟩
  · exact .inl hp
  · refine .inr ⟨v, ?_, hi2⟩
    have e : C.heap[bb]? = A.heap[bb]? := hg.block _ (by omega) (fun e => by have := (hr _ e.symm).1; omega)
    unfold World.cell? at hv ⊢
    simp only [e] at hv; exact hv
theorem alN_ne {n : Nat} : ∀ (r f : Nat) (cur : List Nat), f < n → alN n r f cur ≠ []
  | 0, f, cur, _ => by rw [alN]; exact List.cons_ne_nil _ _
  | r + 1, f, cur, hf => fun e => by
    rw [alN, List.flatMap_eq_nil_iff] at e
    exact alN_ne r (f + 0) (cur ++ [f + 0]) (by omega) (e 0 (List.mem_range.2 (by omega)))
theorem midF_some {n : Int} {ls : List (List Int)} (L : List (List Nat)) (hL : L ≠ []) : ∃ p, midF n ls L = some p := by
  have hs : ∀ (st : Option (List Int × Int)) (v : List Int) (c : Int), ∃ p, seeS st v c = some p := by
    intro st v c
    cases st with
    | none => exact ⟨_, rfl⟩
    | some p => obtain ⟨w, d⟩ := p; simp only [seeS]; split <;> exact ⟨_, rfl⟩
  have key : ∀ (L : List (List Nat)) (st : Option (List Int × Int)), (L ≠ [] ∨ st ≠ none) → ∃ p, L.foldl (fun st v => seeS st (nums v) (costL n (nums v) ls)) st = some p := by
    intro L
    induction L with
    | nil => intro st h; cases st with
      | none => simp at h
      | some p => exact ⟨p, rfl⟩
    | cons v L ih =>
      intro st _
      rw [List.foldl_cons]
      obtain ⟨p, hp⟩ := hs st (nums v) (costL n (nums v) ls)
      exact ih _ (.inr (by rw [hp]; simp))
  exact key L none (.inl hL)
theorem mid_step {n : Int} {ls : List (List Int)} {B bb : Nat} {W5 W wr W' : World} {pre : List (List Nat)} {x : List Nat} {y : Value} {e : Ending} (hbb : bb < B) (hI : MidI n ls B bb W5 pre W) (hb : Below W.heap.size W wr) (hs : SeePostY bb B (seeS (midF n ls pre) (nums x) (costL n (nums x) ls)) y wr e W') :
    KeepsOthers W W' ∧ AlKp (MidP B bb) (fun i => i = bb) #[y] W W' ∧ MidI n ls B bb W5 (pre ++ [x]) W' := by
  obtain ⟨⟨_, hj, hf⟩, hy⟩ := hs
  obtain ⟨u, hu, _⟩ := mid_cell hI
  have hlt : bb < W.heap.size := World.block_lt_of_cell? W _ hu
  have hu2 : wr.cell? ⟨bb, 0, none⟩ = some u := (hb.cell hlt).trans hu
  have hsz : W.heap.size ≤ W'.heap.size := Nat.le_trans hb.size hf.size
  have hcell : ∀ o, W.heap[bb]? = some o → o.isCells = true := fun o ho => isCells_of hu ho
  have hblk : ∀ i, i < W.heap.size → i ≠ bb → W'.heap[i]? = W.heap[i]? := fun i h1 h2 => (hf.block i ⟨h2, by have := hb.size; omega⟩).trans (hb.block i h1)
  refine ⟨⟨hsz, fun i o ho hc => ?_⟩, ⟨⟨hsz, fun i o hx ho hc => (hblk i (Array.getElem?_eq_some_iff.1 ho).1 hx).trans ho⟩, fun i hi => ?_⟩, ?_, ?_, Nat.le_trans hI.2.2 hsz⟩
  · refine (hblk i (Array.getElem?_eq_some_iff.1 ho).1 (fun e => ?_)).trans ho
    subst e
    rw [hcell o ho] at hc; cases hc
  · rcases hi with hi | ⟨v, hv, hi⟩
    · exact .inl (.inl hi)
    · rcases hy with hy | hy
      · rw [hy, hu2] at hv; injection hv with hv; subst hv; exact .inl (.inr ⟨_, hu, hi⟩)
      · rw [hy] at hv; injection hv with hv; subst hv; exact .inr (.inr ⟨_, by simp, hi⟩)
  · rw [midF_snoc]; exact hj
  · exact hI.2.1.trans ⟨by rw [hf.os, hb.os], by rw [hf.tape, hb.tape], by rw [hf.output, hb.output], hsz, fun i hi => hblk i (by have := hI.2.2; omega) hi.2⟩
set_option maxHeartbeats 8000000 in
set_option maxRecDepth 100000 in
theorem middle_ok (n k : Nat) (A : Option Addr) (c : Nat) (ls : List (List Int)) (w : World) (h : VcsN (n : Int) (k : Int) ls) (hr : Kd.C (Kd.slice 3 (Kd.int .i64)) w A ls.length ls) (hc : ls.length ≤ c) :
    CallsIn Fence.wide 3 Try.prog 10 #[.int .i64 (n : Int), .int .i64 (k : Int), .slice A ls.length c] w fun e w' => ∃ ad cap v d, midF (n : Int) ls (alN n k 0 []) = some (v, d) ∧ e = .returned (.tuple #[.slice (some ad) v.length cap, .int .i64 0]) ∧ Kd.R (Kd.int .i64) 3 w' w.heap.size (fun _ => True) (.slice (some ad) v.length cap) v ∧ Below w.heap.size w w' := by
  obtain ⟨h1, h2, h3, h4, h5, h6, h7, h8, h9⟩ := h
  obtain ⟨kv, hkv⟩ := Ev.rounds (g := fun q => voices_circle_valid.f q (n : Int) ls) (validV_ev (n : Int) ls (by omega))
  have hd : decide (2 ≤ (n : Int) ∧ (n : Int) ≤ 16 ∧ ∀ v ∈ ls, VoiN (n : Int) v ∧ v.length = (ls.getD 0 []).length) = true := decide_eq_true ⟨h7, h8, h9⟩
  rw [hd] at hkv
  obtain ⟨ad0, A0, c0, rfl, hx0, hl0, hi0⟩ := at_L1 hr 0 (by omega) (by omega)
  have hR0 : rd_L1 ls 0 = ls.getD 0 [] := rfl
  rw [show ((0 : Int)).toNat = 0 from rfl, Addr.add_zero'] at hx0
  have hk0 : ((rd_L1 ls 0).length : Int) = (k : Int) := h6
  have HV := Aside0.mk (fun (W : World) (hb : Below w.heap.size w W) => voices_circle_valid.calls kv (n : Int) (some ad0) c ls true W (Kd.C_below hr hb) hc hkv)
  have HR := Aside0.mk hr
  have HC := Aside0.mk hc
  have HH := Aside0.mk (And.intro h6 h9)
  have q1 : decide ((12 : Int) < (n : Int)) = false := decide_eq_false (by omega)
  have q2 : decide ((k : Int) < 1) = false := decide_eq_false (by omega)
  have q3 : decide ((3 : Int) < (k : Int)) = false := decide_eq_false (by omega)
  have q4 : decide ((ls.length : Int) < 1) = false := decide_eq_false (by omega)
  have q5 : decide ((8 : Int) < (ls.length : Int)) = false := decide_eq_false (by omega)
  obtain ⟨L0, hL0⟩ : ∃ L0, (rd_L1 ls 0).length = L0 := ⟨_, rfl⟩
  obtain ⟨M, hM⟩ : ∃ M, ls.length = M := ⟨_, rfl⟩
  rw [hL0] at hx0 hk0
  have q6 : ((L0 : Int) != (k : Int)) = false := bne_eq_false_iff_eq.2 hk0
  rw [hM] at q4 q5 HV HR HC ⊢
  have HMM := Aside0.mk hM
  have HBD := Aside0.mk (show 2 ≤ n ∧ n ≤ 12 ∧ 1 ≤ k ∧ k ≤ 3 ∧ 1 ≤ M ∧ M ≤ 8 by omega)
  have hM0 : (0 : Int) < (M : Int) := by omega
  have hx1 : ∀ (W : World), Below w.heap.size w W → W.cell? ad0 = some (.slice A0 L0 c0) := fun W hb => (hb.cell (World.block_lt_of_cell? w _ hx0)).trans hx0
  have HX1 := Aside0.mk hx1
  clear h1 h2 h3 h4 h5 h6 h7 h8 h9 hkv hd hl0 hi0 hR0 hr hc hL0 hM hx1
  refine callsIn_of_wp_marks Try.func10 rfl trivial ?_ rfl
  simp only [Try.ntmps10, List.size_toArray, List.length_cons, List.length_nil, Nat.reduceAdd, Nat.reduceSub, Array.replicate_succ, Array.replicate_zero, List.push_toArray, List.append_toArray, List.nil_append, List.cons_append]
  obtain ⟨W2, hW2⟩ : ∃ W2, (w.alloc (.cells #[.slice (some ad0) M c] 22)).alloc (.cells #[.int .i64 (n : Int)] 59) = W2 := ⟨_, rfl⟩
  have hb2 : Below w.heap.size w W2 := by rw [← hW2]; exact below_alloc (below_alloc (Below.refl _ _) _) _
  have hx2 := HX1.out W2 hb2
  have HVC := Aside0.mk (HV.out W2 hb2)
  rw [← hW2] at hx2 HVC
  have HX2 := Aside0.mk hx0
  clear hx0 hW2 hb2
  gi_wp2
  refine ⟨trivial, (callsIn_wide.2 HVC.out).mono ?_⟩
  rintro e w2 ⟨rfl, ⟨q, rfl⟩⟩
  have hmf : ∀ (fn : Fn) (first cap : Array Value) (w : World), (Instr.makeFunc fn first cap).run Try.prog w = .ok (.func fn first cap) w := fun _ _ _ _ => rfl
  gi_wp2
  refine ⟨trivial, (callsIn_wide.2 (all_calls (n : Int) (k : Int) _)).mono ?_⟩
  rintro e W5 ⟨rfl, hw5⟩
  gi_wp2
  rw [← hw5]
  obtain ⟨B0, B1, B2, B3, B4, hz5, HB5⟩ := mid_new w (n : Int) (k : Int) (some ad0) M c _ _ _ _ _ q W5 hw5.symm
  have HBX := Aside0.mk (And.intro B0 (And.intro B1 (And.intro B2 (And.intro B3 B4))))
  have HZ5 := Aside0.mk hz5
  have HB5 := Aside0.mk HB5
  have hbb : w.heap.size + 1 + 1 < W5.heap.size := by omega
  have hbd := HBD.out
  have hj0 : MidI (n : Int) ls W5.heap.size (w.heap.size + 1 + 1) W5 [] W5 := ⟨⟨B2.frozen 0, B2.frozen 1, B2.cell 0 _ rfl, B2.cell 1 _ rfl⟩, Fr.refl _ _, Nat.le_refl _⟩
  clear hw5 HVC HV B0 B1 B2 HX1 HX2
  refine range_fg rfl (by omega) (gf := 60) (fs := #[]) (lb := #[.pointer (some ⟨w.heap.size + 1 + 1 + 1 + 1, 0, none⟩), .pointer (some ⟨w.heap.size + 1 + 1 + 1, 0, none⟩)]) rfl trivial (enters_of Try.func60 (by kernel_rfl) rfl)
    (all_seq (P := MidP W5.heap.size (w.heap.size + 1 + 1)) (XB := fun i => i = w.heap.size + 1 + 1) (k := k) (n := n) W5 (B4.cell 0 _ rfl) (B3.cell 0 _ rfl) (fun i e => by omega) (by omega) (by omega) (by omega))
    (fun x W vals hE => by obtain ⟨ad, c, b, rfl, _⟩ := hE; rfl)
    (fun A B h => h.2)
    (fun h k => ⟨h.1.trans k.1, fun i hi => (k.2 i hi).elim (fun hb => h.2 i hb) (fun hb => hb.elim (fun hb => .inr (.inl (Nat.le_trans h.1.1 hb))) (fun hb => .inr (.inr hb)))⟩)
    (fun v W l o o' hl ho hc => ⟨KpC.putObj W ho hc, fun i hi => .inl (mid_put (by omega) hi)⟩)
    (MidI (n : Int) ls W5.heap.size (w.heap.size + 1 + 1) W5) (mid_own hbb) (fun s A B h hst => mid_st hbb h hst) (fun s A h => mid_pi hbb h) hj0
    (fun x vals a' W => (W5.heap.size ≤ W.heap.size ∧ AlEnc (MidP W5.heap.size (w.heap.size + 1 + 1)) x W vals) ∧ ∃ XX, vals = #[XX] ∧ a' = { tmps := #[Value.int .i64 ↑n, Value.int .i64 ↑k, Value.slice (some ad0) M c, undef, undef, Value.pointer (some ⟨w.heap.size, 0, none⟩), Value.slice none 0 0, Value.int .i64 0, Value.pointer (some ⟨w.heap.size + 1, 0, none⟩), Value.pointer (some ⟨w.heap.size + 1 + 1, 0, none⟩), XX, undef, undef, undef, undef, undef, Value.int .i64 ↑n, Value.int .i64 ↑n, Value.bool false, Value.bool false, Value.int .i64 ↑k, Value.bool false, Value.bool false, Value.bool false, Value.int .i64 ↑k, Value.bool false, Value.bool false, Value.bool false, Value.slice (some ad0) M c, Value.int .i64 ↑M, Value.bool false, Value.bool false, Value.bool false, Value.slice (some ad0) M c, Value.int .i64 ↑M, Value.bool false, Value.bool false, Value.bool false, Value.slice (some ad0) M c, Value.pointer (some ad0), Value.slice A0 L0 c0, Value.int .i64 ↑k, Value.int .i64 ↑k, Value.bool false, Value.bool false, Value.bool false, Value.int .i64 ↑n, Value.slice (some ad0) M c, Value.bool true, Value.bool false, Value.bool false, Value.int .i64 ↑n, Value.int .i64 ↑k, Value.func (.func 60) #[] #[Value.pointer (some ⟨w.heap.size + 1 + 1 + 1 + 1, 0, none⟩), Value.pointer (some ⟨w.heap.size + 1 + 1 + 1, 0, none⟩)], XX, undef, undef, undef, undef, undef, undef, undef, undef, undef, undef, undef, undef, undef, undef, undef, undef, undef, undef, undef, undef, undef, undef], defers := [] })
    (fun x v a' s A B row h hg hr => ⟨enc_own hbb x v () A B row h.1 hg hr, h.2⟩) ?assign ?body ?done
  case assign =>
    rintro l pre x vals W K hI ⟨ad, c2, b, rfl, hR, ht⟩ hK
    have HK := Aside0.mk hK
    have HI := Aside0.mk hI
    have HE := Aside0.mk (show AlEnc (MidP W5.heap.size (w.heap.size + 1 + 1)) x W #[.slice (some ad) (nums x).length c2] from ⟨ad, c2, b, rfl, hR, ht⟩)
    clear hK hI hR ht
    gi_wp2
    exact HK.out _ _ (KeepsOthers.refl _) ⟨KpC.refl _ _, fun i hi => .inl hi⟩ HI.out ⟨⟨HI.out.2.2, HE.out⟩, _, rfl, rfl⟩
  case body =>
    rintro l pre x rest vals a' W hlw hloop hx hI ⟨⟨hBW, ad, c2, b, hv1, hR, ht⟩, XX, hv2, rfl⟩
    rw [hv1] at hv2
    obtain rfl : Value.slice (some ad) (nums x).length c2 = XX := by injection hv2 with hv2; injection hv2
    subst hv1
    obtain ⟨B0, B1, -⟩ := HBX.out
    have b0 : W.cell? ⟨w.heap.size, 0, none⟩ = some (.slice (some ad0) M c) := (hI.2.1.cell ⟨by omega, by omega⟩ 0).trans (B0.cell 0 _ rfl)
    have b1 : W.cell? ⟨w.heap.size + 1, 0, none⟩ = some (.int .i64 (n : Int)) := (hI.2.1.cell ⟨by omega, by omega⟩ 0).trans (B1.cell 0 _ rfl)
    obtain ⟨hxk, hxn⟩ := alN_mem (n := n) (k := k) k 0 [] (Nat.zero_le _) (by simp) (by simp) x (by rw [hx]; simp)
    have hbw : Below w.heap.size w W := HB5.out.trans ⟨hI.2.1.os, hI.2.1.tape, hI.2.1.output, hI.2.1.size, fun i hi => hI.2.1.block i ⟨by omega, by omega⟩⟩
    have HI := Aside0.mk hI
    have HRX := Aside0.mk hR
    have HRD := Aside0.mk (Kd.R_reads' hR)
    have HBW := Aside0.mk hbw
    have HX := Aside0.mk (And.intro hxk hxn)
    have hnb : ∀ i, ¬ MidP W5.heap.size (w.heap.size + 1 + 1) W i → i ≠ w.heap.size + 1 + 1 := fun i hi e => hi (.inl (by omega))
    have HNB := Aside0.mk hnb
    have HPRE : Aside0 (∀ v ∈ pre, v.length = k) := ⟨fun v hv => (alN_mem (n := n) (k := k) k 0 [] (Nat.zero_le _) (by simp) (by simp) v (by rw [hx]; simp [hv])).1⟩
    have HLX := Aside0.mk (show (nums x).length = k by rw [nums_length]; exact hxk)
    have B00 := Aside0.mk b0
    have B11 := Aside0.mk b1
    have hbl := World.block_lt_of_cell? W _ b1
    obtain ⟨Lx, hLx⟩ : ∃ Lx, (nums x).length = Lx := ⟨_, rfl⟩
    rw [hLx]
    have HLE := Aside0.mk hLx
    clear hv2 hR hI hx hloop hlw hBW hxk hxn hbw hnb ht hj0 B0 B1 B3 B4 hLx
    gi_wp2
    gi_loopw [11, 57] (fun t p wr => ∃ i : Nat, p = .int .i64 (i : Int) ∧ i ≤ M ∧ t = .int .i64 (costL (n : Int) (nums x) (ls.take i)) ∧ Aside0 (Below W.heap.size W wr)) (fun _ p _ => M - (intO p).toNat)
    case atStart => exact ⟨0, rfl, by omega, rfl, ⟨Below.refl _ _⟩⟩
    case round =>
      obtain ⟨i, rfl, hiM, rfl, HB⟩ := hrel
      rcases Nat.lt_or_eq_of_le hiM with hlt | rfl
      · have hz : (i : Int) < (M : Int) := by omega
        have HLT := Aside0.mk hlt
        obtain ⟨ad2, Ai, ci, e2, hxi, hli, hci⟩ := at_L1 (Kd.C_below HR.out (HBW.out.trans (HB.out.mono HBW.out.size))) (i : Int) (by omega) (by omega)
        obtain rfl : ad0 = ad2 := by injection e2
        have hli9 : i < ls.length := by have := HMM.out; omega
        have hyv : rd_L1 ls (i : Int) = ls[i] := by
          show ls.getD ((i : Int)).toNat [] = _
          rw [List.getD_eq_getElem?_getD, Int.toNat_natCast, List.getElem?_eq_getElem hli9]; rfl
        have hym := HH.out.2 _ (List.getElem_mem hli9)
        have htk : ls.take (i + 1) = ls.take i ++ [rd_L1 ls (i : Int)] := by rw [hyv]; exact List.take_succ_eq_append_getElem hli9
        rw [← hyv] at hym
        have hbx := HBD.out
        have htwo : TwoN (n : Int) (nums x) (rd_L1 ls (i : Int)) := ⟨⟨by omega, by omega, by rw [HLX.out]; omega, by rw [HLX.out]; omega, fun z hz => by
          obtain ⟨z, hz2, rfl⟩ := List.mem_map.1 hz
          have := HX.out.2 z hz2
          exact ⟨Int.natCast_nonneg _, by show (z : Int) < (n : Int); omega⟩⟩, hym.1, by rw [HLX.out]; have := HH.out.1; have := hym.2; omega⟩
        have HCALL := Aside0.mk (best_two htwo (Kd.C_below HRD.out.2.2 HB.out) HRD.out.2.1 hci hli)
        rw [HLE.out] at HCALL
        obtain ⟨ct, hct⟩ : ∃ ct, (bestV (n : Int) (nums x) (rd_L1 ls (i : Int))).2 = ct := ⟨_, rfl⟩
        have HSUM : Aside0 (costL (n : Int) (nums x) (ls.take (i + 1)) = wrap64 (costL (n : Int) (nums x) (ls.take i) + ct)) := ⟨by rw [htk, costL_snoc, hct]⟩
        rw [hct] at HCALL
        obtain ⟨Ly, hLy⟩ : ∃ Ly, (rd_L1 ls (i : Int)).length = Ly := ⟨_, rfl⟩
        rw [hLy] at HCALL hxi
        rw [Int.toNat_natCast] at hxi
        have b1' : wr.cell? ⟨w.heap.size + 1, 0, none⟩ = some (.int .i64 (n : Int)) := (HB.out.cell hbl).trans b1
        obtain ⟨sm, hsm⟩ : ∃ sm, costL (n : Int) (nums x) (ls.take i) = sm := ⟨_, rfl⟩
        rw [hsm] at HSUM ⊢
        clear hiM hlt htk hym hyv hli9 hbx htwo hci hli hct hLy b0 b1 hsm e2
        gi_wp2
        refine ⟨trivial, (callsIn_wide.2 HCALL.out).mono ?_⟩
        rintro e w4 ⟨A4, c4, rfl, _, _, hb4⟩
        have HB4 := Aside0.mk (HB.out.trans (hb4.mono HB.out.size))
        have hii : wrap64 ((i : Int) + 1) = (i : Int) + 1 := wrap_id (by omega) (by have := HLT.out; have := HBD.out; omega)
        clear hb4
        gi_wp2
        go_roundw
        case rel => exact ⟨i + 1, by (try rw [hii]); go_num, HLT.out, by rw [HSUM.out], HB4⟩
        case measure => exact intO_less (by go_num) HLT.out
      · have hall : ls.take i = ls := List.take_of_length_le (by have := HMM.out; omega)
        rw [hall]
        have hsee := see_callsY (S := w.heap.size + 1 + 1) (base := W5.heap.size) (st := midF (n : Int) ls pre) (v := nums x) (c := costL (n : Int) (nums x) ls) (ad := ad) (cap := c2) (W := wr) (see_own HI.out.1 (fun j hj => HB.out.block j ?lt)) (Kd.R_below (Kd.R_mono (R_rebase HRX.out (fun j hj => Nat.le_of_not_lt (fun h => HRX.out.1 j hj (.inl h)))) (fun j hj => HNB.out j hj)) HB.out) (fun w0 d h => ?len) (by have := HLX.out; have := HBD.out; omega)
        case lt =>
          obtain ⟨u, hu, hul⟩ := mid_cell HI.out
          rcases hj with rfl | ⟨v, hv, hj⟩
          · exact World.block_lt_of_cell? W _ hu
          · rw [hu] at hv; injection hv with hv; subst hv; exact hul j hj
        case len => rw [nums_length, HX.out.1]; exact (midF_len pre HPRE.out w0 d h).symm
        rw [HLE.out] at hsee
        have HSEE := Aside0.mk hsee
        obtain ⟨sm, hsm⟩ : ∃ sm, costL (n : Int) (nums x) ls = sm := ⟨_, rfl⟩
        rw [hsm] at HSEE ⊢
        clear hsee hall b0 b1
        gi_wp2
        refine ⟨trivial, (callsIn_wide.2 HSEE.out).mono ?_⟩
        rintro e w5 hs
        rw [← hsm] at hs
        have hst := mid_step hbb HI.out HB.out hs
        obtain ⟨⟨⟨u, rfl⟩, _⟩, _⟩ := hs
        gi_wp2
        exact hst
  case done =>
    rintro D W hD hI hK
    obtain ⟨⟨f0, f1, hst⟩, hf, hsz⟩ := hI
    obtain ⟨p, hp⟩ : ∃ p, midF (n : Int) ls (alN n k 0 []) = some p := midF_some _ (alN_ne k 0 [] (by omega))
    obtain ⟨v, d⟩ := p
    rw [hp] at hst
    obtain ⟨ad, cap, q0, q1', hRv⟩ := hst
    have HRV := Aside0.mk hRv
    have HP := Aside0.mk hp
    have HF := Aside0.mk hf
    have HK := Aside0.mk hK
    clear hK hp hf hRv hj0 B3 B4
    gi_wp2
    refine ⟨by simp, .inl ⟨_, _, rfl, run_takeDeferred HK.out, ?_⟩⟩
    have hgp := grownBy_putObj' W D (.deferred none)
    have hfw : Below w.heap.size w W := HB5.out.trans ⟨HF.out.os, HF.out.tape, HF.out.output, HF.out.size, fun i hi => HF.out.block i ⟨by omega, by omega⟩⟩
    refine ⟨_, results_tmp2 rfl _ _ _, ad, cap, v, d, HP.out, rfl, ?_, ?_⟩
    · have h2 := Kd.R_lower (Kd.R_move (w1 := W.putObj D (.deferred none)) (Kd.R_tight rfl HRV.out) (fun i hi => World.putObj_heap_other (fun e => ?ne))) (show w.heap.size ≤ W5.heap.size by omega)
      case ne =>
        obtain ⟨cells, hcl⟩ := own_typed (Kd.own_of_R HRV.out) i hi.symm
        rw [e, HK.out] at hcl
        cases hcl
      exact Kd.R_mono h2 (fun _ _ => trivial)
    · exact hfw.grown hgp hfw.size (fun k e => by cases e; omega)

end Go.Proofs.Ytfjafmgaahfhgaa.P
namespace Go.Proofs.Ytfjafmgaahfhgaa.P
open Go.RowKit Go.Proofs.YtfjafmgaahfhgaaW.PrintWords Go.Proofs.YtfjafmgaahfhgaaW.PrintLast Go.Proofs.YtfjafmgaahfhgaaW.PrintMore
attribute [local go_sem] max2_int min2_int max_two min_two max_three min_three max_four min_four   -- for this text's walks alone
set_option linter.unusedVariables false
set_option linter.unusedSimpArgs false

attribute [local go_sem] Oper.semAt_some
/-! voices.Middle: its contract -/
def voices_Middle.f (n k : Int) (ls : List (List Int)) : Option (List Int × Int) := if VcsN n k ls then some (((midF n ls (alN n.toNat k.toNat 0 [])).getD ([], 0)).1, 0) else some ([], 2)
set_option maxHeartbeats 8000000 in
set_option maxRecDepth 100000 in
theorem middle_no (n k : Int) (A : Option Addr) (c : Nat) (ls : List (List Int)) (w : World) (h : ¬ VcsN n k ls) (hr : Kd.C (Kd.slice 3 (Kd.int .i64)) w A ls.length ls) (hc : ls.length ≤ c) :
    Calls Try.prog 10 #[.int .i64 n, .int .i64 k, .slice A ls.length c] w fun e w' => e = .returned (.tuple #[.slice none 0 0, .int .i64 2]) ∧ Below w.heap.size w w' := by
  have HR := Aside0.mk hr
  have HN := Aside0.mk h
  have HC := Aside0.mk hc
  clear h hr hc
  by_cases c1 : 12 < n
  · have q1 : decide ((12 : Int) < n) = true := decide_eq_true c1
    clear c1
    go_enter Try.func10, Try.ntmps10
    go_wp2
    go_ret2
    exact ⟨rfl, below_alloc (below_alloc (Below.refl _ _) _) _⟩
  have q1 : decide ((12 : Int) < n) = false := decide_eq_false c1
  by_cases c2 : k < 1
  · have q2 : decide (k < 1) = true := decide_eq_true c2
    clear c1 c2
    go_enter Try.func10, Try.ntmps10
    go_wp2
    go_ret2
    exact ⟨rfl, below_alloc (below_alloc (Below.refl _ _) _) _⟩
  have q2 : decide (k < 1) = false := decide_eq_false c2
  by_cases c3 : 3 < k
  · have q3 : decide (3 < k) = true := decide_eq_true c3
    clear c1 c2 c3
    go_enter Try.func10, Try.ntmps10
    go_wp2
    go_ret2
    exact ⟨rfl, below_alloc (below_alloc (Below.refl _ _) _) _⟩
  have q3 : decide (3 < k) = false := decide_eq_false c3
  obtain ⟨M, hM⟩ : ∃ M, ls.length = M := ⟨_, rfl⟩
  rw [hM] at HR HC ⊢
  have HMM := Aside0.mk hM
  by_cases c4 : (M : Int) < 1
  · have q4 : decide ((M : Int) < 1) = true := decide_eq_true c4
    clear c1 c2 c3 c4 hM
    go_enter Try.func10, Try.ntmps10
    go_wp2
    go_ret2
    exact ⟨rfl, below_alloc (below_alloc (Below.refl _ _) _) _⟩
  have q4 : decide ((M : Int) < 1) = false := decide_eq_false c4
  by_cases c5 : 8 < (M : Int)
  · have q5 : decide (8 < (M : Int)) = true := decide_eq_true c5
    clear c1 c2 c3 c4 c5 hM
    go_enter Try.func10, Try.ntmps10
    go_wp2
    go_ret2
    exact ⟨rfl, below_alloc (below_alloc (Below.refl _ _) _) _⟩
  have q5 : decide (8 < (M : Int)) = false := decide_eq_false c5
  have hM0 : (0 : Int) < (M : Int) := by omega
  obtain ⟨ad0, A0, c0, rfl, hx0, hl0, hi0⟩ := at_L1 HR.out 0 (by omega) (by omega)
  have hR0 : rd_L1 ls 0 = ls.getD 0 [] := rfl
  rw [show ((0 : Int)).toNat = 0 from rfl, Addr.add_zero'] at hx0
  obtain ⟨L0, hL0⟩ : ∃ L0, (rd_L1 ls 0).length = L0 := ⟨_, rfl⟩
  rw [hL0] at hx0
  have hb2 : ∀ t1 t2, Below w.heap.size w ((w.alloc (.cells #[.slice (some ad0) M c] t1)).alloc (.cells #[.int .i64 n] t2)) := fun t1 t2 => below_alloc (below_alloc (Below.refl _ _) _) _
  have hx2 := ((hb2 22 59).cell (World.block_lt_of_cell? w _ hx0)).trans hx0
  by_cases c6 : (L0 : Int) = k
  · have q6 : ((L0 : Int) != k) = false := bne_eq_false_iff_eq.2 c6
    obtain ⟨kv, hkv⟩ := Ev.rounds (g := fun q => voices_circle_valid.f q n ls) (validV_ev n ls (by omega))
    have hd : decide (2 ≤ n ∧ n ≤ 16 ∧ ∀ v ∈ ls, VoiN n v ∧ v.length = (ls.getD 0 []).length) = false := decide_eq_false (fun h => HN.out ⟨by omega, by omega, by omega, by omega, by omega, by rw [← hR0, hL0]; exact c6, h⟩)
    rw [hd] at hkv
    have hcv := voices_circle_valid.calls kv n (some ad0) c ls false _ (Kd.C_below (hM ▸ HR.out) (hb2 22 59)) (hM ▸ HC.out) hkv
    rw [hM] at hcv
    have HCV := Aside0.mk hcv
    have HX0 := Aside0.mk hx0
    subst c6
    clear c1 c2 c3 c4 c5 hM hkv hd hcv hl0 hi0 hR0 hL0 hx0
    go_enter Try.func10, Try.ntmps10
    go_wp2_with fail
    refine HCV.out.mono ?_
    rintro e w2 ⟨rfl, ⟨q, rfl⟩⟩
    go_wp2
    go_ret2
    exact ⟨rfl, pw_below_drewN (below_alloc (below_alloc (Below.refl _ _) _) _) q⟩
  · have q6 : ((L0 : Int) != k) = true := bne_iff_ne.2 c6
    have HX0 := Aside0.mk hx0
    clear c1 c2 c3 c4 c5 c6 hM hl0 hi0 hR0 hL0 hx0
    go_enter Try.func10, Try.ntmps10
    go_wp2
    go_ret2
    exact ⟨rfl, below_alloc (below_alloc (Below.refl _ _) _) _⟩
theorem voices_Middle.calls (a0 a1 : Int) (A2 : Option Addr) (c2 : Nat) (l2 : List (List Int)) (r1 : List Int) (r2 : Int) (w : World) (hr2 : Kd.C (Kd.slice 3 (Kd.int .i64)) w A2 l2.length l2) (hc2 : l2.length ≤ c2) (h : voices_Middle.f a0 a1 l2 = some (r1, r2)) :
    Calls Try.prog 10 #[.int .i64 a0, .int .i64 a1, .slice A2 l2.length c2] w fun e w' => ∃ v0_ : Value, e = .returned (.tuple #[v0_, .int .i64 r2]) ∧ Kd.R (Kd.int .i64) 3 w' w.heap.size (fun _ => True) v0_ r1 ∧ Below w.heap.size w w' := by
  unfold voices_Middle.f at h
  by_cases hv : VcsN a0 a1 l2
  · rw [if_pos hv] at h
    simp only [Option.some.injEq, Prod.mk.injEq] at h
    obtain ⟨rfl, rfl⟩ := h
    obtain ⟨n, rfl⟩ : ∃ n : Nat, a0 = (n : Int) := ⟨a0.toNat, by have := hv.2.2.2.2.2.2.1; omega⟩
    obtain ⟨k, rfl⟩ : ∃ k : Nat, a1 = (k : Int) := ⟨a1.toNat, by have := hv.2.1; omega⟩
    refine (callsIn_wide.1 (middle_ok n k A2 c2 l2 w hv hr2 hc2)).mono ?_
    rintro e w' ⟨ad, cap, v, d, hm, rfl, hr, hb⟩
    exact ⟨_, rfl, by rw [Int.toNat_natCast, Int.toNat_natCast, hm]; exact hr, hb⟩
  · rw [if_neg hv] at h
    simp only [Option.some.injEq, Prod.mk.injEq] at h
    obtain ⟨rfl, rfl⟩ := h
    refine (middle_no a0 a1 A2 c2 l2 w hv hr2 hc2).mono ?_
    rintro e w' ⟨rfl, hb⟩
    exact ⟨_, rfl, Kd.R_nil _ _ _ _ _, hb⟩

end Go.Proofs.Ytfjafmgaahfhgaa.P
namespace Go.Proofs.Ytfjafmgaahfhgaa.P
open Go.RowKit Go.Proofs.YtfjafmgaahfhgaaW.PrintWords Go.Proofs.YtfjafmgaahfhgaaW.PrintLast Go.Proofs.YtfjafmgaahfhgaaW.PrintMore
attribute [local go_sem] max2_int min2_int max_two min_two max_three min_three max_four min_four   -- for this text's walks alone
set_option linter.unusedVariables false
set_option linter.unusedSimpArgs false

/-! the document's tones in order -/
def insR (x : Int) : List Int → List Int
  | [] => [x]
  | y :: l => if y ≤ x then y :: insR x l else x :: y :: l
def risR (a : List Int) : List Int := a.foldl (fun o x => insR x o) []
theorem insR_at (x : Int) : ∀ (O : List Int) (j : Nat), j ≤ O.length → (∀ i, i < j → O.getD i 0 ≤ x) → (j < O.length → ¬ O.getD j 0 ≤ x) → insR x O = O.take j ++ x :: O.drop j
  | [], j, hj, _, _ => by
    have : j = 0 := by simpa using hj
    subst this; rfl
  | y :: O, 0, _, _, h => by
    unfold insR
    have := h (by simp)
    rw [if_neg (by simpa using this)]; rfl
  | y :: O, j + 1, hj, h1, h2 => by
    unfold insR
    rw [if_pos (by simpa using h1 0 (by omega)), insR_at x O j (by simpa using hj) (fun i hi => by simpa using h1 (i + 1) (by omega)) (fun hl => by simpa using h2 (by simpa using hl))]
    rfl
theorem insR_length (x : Int) : ∀ O : List Int, (insR x O).length = O.length + 1
  | [] => rfl
  | y :: O => by
    unfold insR
    split
    · rw [List.length_cons, insR_length x O, List.length_cons]
    · rfl
theorem risR_snoc (a : List Int) (x : Int) : risR (a ++ [x]) = insR x (risR a) := by unfold risR; rw [List.foldl_append]; rfl
theorem risR_length (a : List Int) : (risR a).length = a.length := by
  have h : ∀ (l o : List Int), (l.foldl (fun o x => insR x o) o).length = o.length + l.length := by
    intro l
    induction l with
    | nil => intro o; rfl
    | cons x l ih => intro o; rw [List.foldl_cons, ih, insR_length, List.length_cons]; omega
  have := h a []
  unfold risR
  rw [this]; simp
theorem C_upto {W : World} {A : Option Addr} {O : List Int} {j : Nat} (h : Kd.C (Kd.int .i64) W A O.length O) (hj : j ≤ O.length) : Kd.C (Kd.int .i64) W A j (O.take j) := by
  have := Kd.C_take h hj
  rwa [List.length_take, Nat.min_eq_left hj] at this
theorem C_from {W : World} {ad : Addr} {O : List Int} {j c : Nat} (h : Kd.C (Kd.int .i64) W (some ad) O.length O) (hj : j ≤ O.length) (hc : O.length ≤ c) : Kd.C (Kd.int .i64) W (if c = j then some ad else some (ad.add j)) (O.length - j) (O.drop j) := by
  have := Kd.C_drop h hj hc
  rw [List.length_drop] at this
  rw [show j * (Kd.int .i64).sz = j from Nat.mul_one j] at this
  exact this
theorem C_fromN {W : World} {O : List Int} {j : Nat} (h : Kd.C (Kd.int .i64) W none O.length O) (hj : j ≤ O.length) : Kd.C (Kd.int .i64) W none (O.length - j) (O.drop j) := by
  have h0 : O = [] := by
    cases O with
    | nil => rfl
    | cons y O => obtain ⟨ad, e, _⟩ := h.2.2 (by simp); cases e
  subst h0
  have : j = 0 := by simpa using hj
  subst this
  exact h
theorem R_only9 {e : Nat} {w : World} {base : Nat} {ok ok' : Nat → Prop} {v : Value} {xs : List Int} (h : Kd.R (Kd.int .i64) e w base ok v xs) (hok : ∀ k, v.ownBlock = some k → ok' k) : Kd.R (Kd.int .i64) e w base ok' v xs := by
  obtain ⟨_, inner, ho, hr⟩ := h
  exact ⟨hok, inner, ho, hr⟩
def sackbutref06_Rising.f (l1 : List Int) : Option (List Int) := if l1.length ≤ 1000 then some (risR l1) else none
set_option maxHeartbeats 8000000 in
set_option maxRecDepth 100000 in
theorem sackbutref06_Rising.calls (A1 : Option Addr) (c1 : Nat) (l1 : List Int) (r : List Int) (w : World) (hr1 : Kd.C (Kd.int .i64) w A1 l1.length l1) (hc1 : l1.length ≤ c1) (h : sackbutref06_Rising.f l1 = some r) :
    Calls Try.prog 15 #[.slice A1 l1.length c1] w fun e w' => ∃ v0_ : Value, e = .returned v0_ ∧ Kd.R (Kd.int .i64) 3 w' w.heap.size (fun _ => True) v0_ r ∧ Below w.heap.size w w' := by
  unfold sackbutref06_Rising.f at h
  by_cases hc : l1.length ≤ 1000
  · rw [if_pos hc] at h
    have hres := Option.some.inj h
    have HRES := Aside0.mk hres
    have HR1 := Aside0.mk hr1
    have HC1 := Aside0.mk hc1
    clear hr1 hc1 h hres
    go_enter Try.func15, Try.ntmps15
    go_wp2
    go_loopg [3, 9] l1.length (fun gg s3 s9 wr => ∃ (i : Nat) (A : Option Addr) (c : Nat), s9 = .int .i64 i ∧ s3 = .slice A (risR (l1.take i)).length c ∧ Aside0 (i + gg = l1.length) ∧ Aside0 (Kd.R (Kd.int .i64) 3 wr w.heap.size (fun _ => True) (.slice A (risR (l1.take i)).length c) (risR (l1.take i))) ∧ Aside0 (Below w.heap.size w wr))
    case atStart => exact ⟨0, none, 0, rfl, by simp [risR], ⟨by omega⟩, ⟨Kd.R_nil _ _ _ _ _⟩, ⟨Below.refl _ _⟩⟩
    case round =>
      obtain ⟨i, A, c, rfl, rfl, HI, HR, HB⟩ := hrel
      obtain ⟨wo, rfl⟩ : ∃ wo : World, wo = wr := ⟨wr, rfl⟩
      by_cases hlt : i < l1.length
      · have hltz : (i : Int) < (l1.length : Int) := by omega
        have hi0 : (0 : Int) ≤ (i : Int) := by omega
        obtain ⟨ad1, e1, hx1⟩ := Kd.at_int HR1.out i hi0 hltz
        cases e1
        replace hx1 := (HB.out.cell (World.block_lt_of_cell? w _ hx1)).trans hx1
        rw [Int.toNat_natCast] at hx1
        obtain ⟨x, hxx⟩ : ∃ x, rd l1 (i : Int) = x := ⟨_, rfl⟩
        rw [hxx] at hx1
        have HXX := Aside0.mk hxx
        clear hxx
        obtain ⟨O, hO⟩ : ∃ O, risR (l1.take i) = O := ⟨_, rfl⟩
        have HO := Aside0.mk hO
        have HLO := Aside0.mk (show O.length = i by rw [← hO, risR_length, List.length_take]; omega)
        rw [hO] at HR ⊢
        clear hO
        have HRC := Aside0.mk (Kd.R_reads' HR.out)
        have HTK := Aside0.mk (show l1.take (i + 1) = l1.take i ++ [x] by rw [List.take_add_one, List.getElem?_eq_getElem hlt, ← HXX.out, rd_nat, List.getD_eq_getElem?_getD, List.getElem?_eq_getElem hlt]; rfl)
        have hOl : O.length ≤ 1000 := by have := HLO.out; omega
        go_wp2
        obtain ⟨G, rfl⟩ : ∃ G, G = gk := ⟨gk, rfl⟩
        go_loopg [6] O.length (fun gg s6 wr => wr = wo ∧ ∃ (j : Nat), s6 = .int .i64 j ∧ Aside0 (j + gg = O.length) ∧ Aside0 (∀ i, i < j → O.getD i 0 ≤ x))
        case atStart => exact ⟨rfl, 0, rfl, ⟨by omega⟩, ⟨fun i hi => absurd hi (by omega)⟩⟩
        case round =>
          obtain ⟨rfl, j, rfl, HJ, HA⟩ := hrel
          by_cases hj : j < O.length
          · have hjz : (j : Int) < (O.length : Int) := by omega
            have hj0 : (0 : Int) ≤ (j : Int) := by omega
            obtain ⟨ad2, e2, hx2⟩ := Kd.at_int HRC.out.2.2 j hj0 hjz
            cases e2
            rw [Int.toNat_natCast, rd_nat] at hx2
            obtain ⟨y, hy⟩ : ∃ y, O.getD j 0 = y := ⟨_, rfl⟩
            rw [hy] at hx2
            have HY := Aside0.mk hy
            clear hy
            by_cases hyx : y ≤ x
            · have q1 : decide (y ≤ x) = true := decide_eq_true hyx
              clear hyx
              go_wp2
              go_roundg (gk - 1)
              case measure => have := HJ.out; omega
              case rel => exact ⟨rfl, j + 1, by go_num, ⟨by have := HJ.out; omega⟩, ⟨fun i hi => by
                rcases Nat.lt_or_ge i j with h | h
                · exact HA.out i h
                · have : i = j := by omega
                  subst this
                  rw [HY.out]; exact of_decide_eq_true q1⟩⟩
            · have q1 : decide (y ≤ x) = false := decide_eq_false hyx
              have HI9 := Aside0.mk (insR_at x O j (by have := HJ.out; omega) HA.out (fun _ => by rw [HY.out]; exact hyx))
              clear hyx
              go_wp2
              clear hx2
              have hjl : j ≤ O.length := by have := HJ.out; omega
              have hjc : j ≤ c := Nat.le_trans hjl HRC.out.2.1
              have HT1 : ∀ W', Below wr.heap.size wr W' → Kd.C (Kd.int .i64) W' (some ad2) j (O.take j) := fun W' hb => C_upto (Kd.C_below HRC.out.2.2 hb) hjl
              have HT2 : ∀ W', Below wr.heap.size wr W' → Kd.C (Kd.int .i64) W' (if c = j then some ad2 else some (ad2.add j)) (O.length - j) (O.drop j) := fun W' hb => C_from (Kd.C_below HRC.out.2.2 hb) hjl HRC.out.2.1
              have hbs : Below wr.heap.size wr wr.drew := below_drew (Below.refl _ _)
              refine start_ (n := 13) (S := fun _ => True) (ds := []) #[false, false, false, false, false, false, false, false, false, false, false, false, false] (by kernel_rfl) rfl rfl trivial (fun _ => ?_)
              refine pure_ (i := 1) (N := some 28) (v := ?_) (a' := ?_) #[false, true, false, false, false, false, false, false, false, false, false, false, false] rfl rfl (by kernel_rfl) (fun _ _ _ h => h) (Or.inl ⟨by rfl, ?_⟩) ?_ ?_
              rotate_left
              · intro w'
                go_simp
                with_reducible rfl
              rotate_left
              · simp only [Act.put, List.setIfInBounds_toArray, List.set_cons_zero, List.set_cons_succ, i64_w, i32_w]
                rfl
              refine pure_ (i := 2) (N := some 29) (v := ?_) (a' := ?_) #[false, true, true, false, false, false, false, false, false, false, false, false, false] rfl rfl (by kernel_rfl) (fun _ _ _ h => h) (Or.inl ⟨by rfl, ?_⟩) ?_ ?_
              rotate_left
              · intro w'
                go_simp
                with_reducible rfl
              rotate_left
              · simp only [Act.put, List.setIfInBounds_toArray, List.set_cons_zero, List.set_cons_succ, i64_w, i32_w]
                rfl
              refine pure_ (i := 3) (N := some 30) (v := ?_) (a' := ?_) #[false, true, true, true, false, false, false, false, false, false, false, false, false] rfl rfl (by kernel_rfl) (fun _ _ _ h => h) (Or.inl ⟨by rfl, ?_⟩) ?_ ?_
              rotate_left
              · intro w'
                go_simp
                with_reducible rfl
              rotate_left
              · simp only [Act.put, List.setIfInBounds_toArray, List.set_cons_zero, List.set_cons_succ, i64_w, i32_w]
                rfl
              refine pure_ (i := 5) (N := some 32) (v := ?_) (a' := ?_) #[false, true, true, true, false, true, false, false, false, false, false, false, false] rfl rfl (by kernel_rfl) (fun _ _ _ h => h) (Or.inl ⟨by rfl, ?_⟩) ?_ ?_
              rotate_left
              · intro w'
                go_simp
                with_reducible rfl
              rotate_left
              · simp only [Act.put, List.setIfInBounds_toArray, List.set_cons_zero, List.set_cons_succ, i64_w, i32_w]
                rfl
              refine pure_ (i := 8) (N := some 35) (v := ?_) (a' := ?_) #[false, true, true, true, false, true, false, false, true, false, false, false, false] rfl rfl (by kernel_rfl) (fun _ _ _ h => h) (Or.inl ⟨by rfl, ?_⟩) ?_ ?_
              rotate_left
              · intro w'
                go_simp
                with_reducible rfl
              rotate_left
              · simp only [Act.put, List.setIfInBounds_toArray, List.set_cons_zero, List.set_cons_succ, i64_w, i32_w]
                rfl
              refine pure_ (i := 9) (N := some 36) (v := ?_) (a' := ?_) #[false, true, true, true, false, true, false, false, true, true, false, false, false] rfl rfl (by kernel_rfl) (fun _ _ _ h => h) (Or.inl ⟨by rfl, ?_⟩) ?_ ?_
              rotate_left
              · intro w'
                go_simp
                with_reducible rfl
              rotate_left
              · simp only [Act.put, List.setIfInBounds_toArray, List.set_cons_zero, List.set_cons_succ, i64_w, i32_w]
                rfl
              refine pure_ (i := 10) (N := some 37) (v := ?_) (a' := ?_) #[false, true, true, true, false, true, false, false, true, true, true, false, false] rfl rfl (by kernel_rfl) (fun _ _ _ h => h) (Or.inl ⟨by rfl, ?_⟩) ?_ ?_
              rotate_left
              · intro w'
                go_simp
                with_reducible rfl
              rotate_left
              · simp only [Act.put, List.setIfInBounds_toArray, List.set_cons_zero, List.set_cons_succ, i64_w, i32_w]
                rfl
              refine join_ (σ := Value × Value × Option Addr × Nat) 3 #[true, true, true, true, true, true, true, false, true, true, true, false, false] (fun s => [(27, s.1), (31, s.2.1), (33, .slice s.2.2.1 1 s.2.2.2)]) (fun s w' => Kd.R (Kd.int .i64) 3 w' wr.heap.size (fun _ => True) s.2.1 (O.take j) ∧ Kd.C (Kd.int .i64) w' s.2.2.1 1 [x] ∧ Below wr.heap.size wr w') ?tail (fun hjoin => ?_)
              case tail =>
                rintro ⟨v27, v31, A33, c33⟩ w5 ⟨ho31, hC33, hb5⟩
                refine norm_ (a' := ?_) ?_ ?_
                rotate_left
                · simp only [putAll, Act.put, List.setIfInBounds_toArray, List.set_cons_zero, List.set_cons_succ]
                  rfl
                refine one_ (i := 7) (N := some 34) #[true, true, true, true, true, true, true, true, true, true, true, false, false] rfl rfl (by kernel_rfl) (by decide) (fun K hK => ?_)
                refine Kd.R_append_rows_step (Kd.int .i64) (w0 := wr) wr.heap.size (by rfl) (.tmp 31) (.tmp 33) 23 3 (.int .i64 0) 8 rfl Try.underlying23 info3 rfl (by decide) (by omega) v31 (O.take j) [x] A33 1 c33 (fun _ => True) (fun _ => False) rfl rfl ho31 hC33 (fun _ _ h => h) (fun _ h => h.elim) (fun _ _ => trivial) hb5 (below_size hb5) (by simp; omega) ?_
                rintro v34 w6 ho34 hb6 hg34 -
                refine hK.out _ _ trivial (fun _ => ?_)
                clear hK K
                refine norm_ (a' := ?_) ?_ ?_
                rotate_left
                · show Act.put _ (some 34) _ = _
                  simp only [Act.put, List.setIfInBounds_toArray, List.set_cons_zero, List.set_cons_succ, i64_w, i32_w]
                  rfl
                refine one_ (i := 11) (N := some 38) #[true, true, true, true, true, true, true, true, true, true, true, true, false] rfl rfl (by kernel_rfl) (by decide) (fun K hK => ?_)
                refine Kd.R_append_rows_step (Kd.int .i64) (w0 := wr) wr.heap.size (by rfl) (.tmp 34) (.tmp 37) 23 3 (.int .i64 0) 8 rfl Try.underlying23 info3 rfl (by decide) (by omega) v34 (O.take j ++ [x]) (O.drop j) (if c = j then some ad2 else some (ad2.add j)) (O.length - j) (c - j) (fun _ => True) (fun _ => False) rfl rfl ho34 (HT2 _ hb6) (fun _ _ h => h) (fun _ h => h.elim) (fun _ _ => trivial) hb6 (below_size hb6) (by simp; omega) ?_
                rintro v38 w7 ho38 hb7 hg38 -
                obtain ⟨A9, c9, rfl⟩ := Kd.R_slice ho38
                refine hK.out _ _ trivial (fun _ => ?_)
                clear hK K
                refine norm_ (a' := ?_) ?_ ?_
                rotate_left
                · show Act.put _ (some 38) _ = _
                  simp only [Act.put, List.setIfInBounds_toArray, List.set_cons_zero, List.set_cons_succ, i64_w, i32_w]
                  rfl
                refine pure_ (i := 12) (N := some 3) (v := ?_) (a' := ?_) #[true, true, true, true, true, true, true, true, true, true, true, true, true] rfl rfl (by kernel_rfl) (fun _ _ _ h => h) (Or.inl ⟨by rfl, ?_⟩) ?_ ?_
                rotate_left
                · intro w'
                  go_simp
                  with_reducible rfl
                rotate_left
                · simp only [Act.put, List.setIfInBounds_toArray, List.set_cons_zero, List.set_cons_succ, i64_w, i32_w]
                  rfl
                refine done_ (by kernel_rfl) ?_
                have HEQ := Aside0.mk (show O.take j ++ [x] ++ O.drop j = risR (l1.take (i + 1)) by rw [HTK.out, risR_snoc, HO.out, HI9.out]; simp)
                have HO38 := Aside0.mk ho38
                have HB7 := Aside0.mk hb7
                clear ho31 hC33 hb5 ho34 hb6 hg34 ho38 hb7 hg38 HT1 HT2
                obtain ⟨L9, hL9⟩ : ∃ L9, (O.take j ++ [x] ++ O.drop j).length = L9 := ⟨_, rfl⟩
                rw [hL9]
                have HL9 := Aside0.mk hL9
                clear hL9
                try (generalize (if c = j then some ad2 else some (ad2.add j)) = A77)
                go_wp2
                go_roundg (G - 1)
                case measure => have := HI.out; omega
                case rel => exact ⟨i + 1, A9, c9, by go_num, (by rw [← HEQ.out, HL9.out]; have h6 := HL9.out; simp only [List.length_append, List.length_take, List.length_drop, List.length_cons, List.length_nil] at h6; rw [show j + (O.length - j + 1) = L9 by omega]), ⟨by have := HI.out; omega⟩, ⟨by rw [← HEQ.out]; exact Kd.R_lower HO38.out (below_size HB.out)⟩, ⟨HB.out.trans (HB7.out.mono (below_size HB.out))⟩⟩
              refine two_ (i := 0) (j := 6) (Ni := some 27) (Nj := some 33) #[true, true, true, true, false, true, false, false, true, true, true, false, false] #[false, true, true, true, false, true, true, false, true, true, true, false, false] rfl rfl rfl rfl (by kernel_rfl) (by decide) (by decide) (fun K hK => ?_) (fun K hK => ?_)
              · skip
                refine Kd.R_lit_step (Kd.int .i64) (w0 := wr) wr.heap.size 3 (by rfl) (N := 27) rfl (xs := []) (inner := []) (ok := fun _ => True) (okp := fun _ => False) ?hr (Reps.none _ _) (fun _ h => h.elim) trivial hbs (below_size hbs) (by simp) ?_
                case hr => first | (go_simp; done) | (go_simp; rfl)
                rintro v27 w1 ho27 hb27 hg27 -
                refine hK.out _ _ trivial (fun _ => ?_)
                clear hK K
                refine norm_ (a' := ?_) ?_ ?_
                rotate_left
                · show Act.put _ (some 27) _ = _
                  simp only [Act.put, List.setIfInBounds_toArray, List.set_cons_zero, List.set_cons_succ, i64_w, i32_w]
                  rfl
                refine two_ (i := 4) (j := 6) (Ni := some 31) (Nj := some 33) #[true, true, true, true, true, true, false, false, true, true, true, false, false] #[true, true, true, true, false, true, true, false, true, true, true, false, false] rfl rfl rfl rfl (by kernel_rfl) (by decide) (by decide) (fun K hK => ?_) (fun K hK => ?_)
                · skip
                  refine Kd.R_append_rows_step (Kd.int .i64) (w0 := wr) wr.heap.size (by rfl) (.tmp 27) (.tmp 30) 23 3 (.int .i64 0) 8 rfl Try.underlying23 info3 rfl (by decide) (by omega) v27 [] (O.take j) (some ad2) j c (fun _ => True) (fun _ => False) rfl rfl ho27 (HT1 _ hb27) (fun _ _ h => h) (fun _ h => h.elim) (fun _ _ => trivial) hb27 (below_size hb27) (by simp; omega) ?_
                  rintro v31 w2 ho31 hb31 hg31 -
                  refine hK.out _ _ trivial (fun _ => ?_)
                  clear hK K
                  refine norm_ (a' := ?_) ?_ ?_
                  rotate_left
                  · show Act.put _ (some 31) _ = _
                    simp only [Act.put, List.setIfInBounds_toArray, List.set_cons_zero, List.set_cons_succ, i64_w, i32_w]
                    rfl
                  refine one_ (i := 6) (N := some 33) #[true, true, true, true, true, true, true, false, true, true, true, false, false] rfl rfl (by kernel_rfl) (by decide) (fun K hK => ?_)
                  refine Kd.R_lit_step (Kd.int .i64) (w0 := wr) wr.heap.size 3 (by rfl) (N := 33) rfl (xs := [x]) (inner := [.int .i64 x]) (ok := fun _ => True) (okp := fun _ => False) ?hr (Reps.one rfl (Reps.none _ _)) (fun _ h => h.elim) trivial hb31 (below_size hb31) (by simp) ?_
                  case hr => first | (go_simp; done) | (go_simp; rfl)
                  rintro v33 w3 ho33 hb33 hg33 ⟨b33, e33, l33⟩
                  obtain ⟨A33, c33, rfl⟩ := Kd.R_slice ho33
                  refine hK.out _ _ trivial (fun _ => ?_)
                  clear hK K
                  refine norm_ (a' := ?_) ?_ ?_
                  rotate_left
                  · show Act.put _ (some 33) _ = _
                    simp only [Act.put, List.setIfInBounds_toArray, List.set_cons_zero, List.set_cons_succ, i64_w, i32_w]
                    rfl
                  have ho31 := Kd.R_step ho31 (fun k _ hk => hg33.block k hk (fun e => by cases e))
                  exact norm_ (by simp only [putAll, Act.put, List.setIfInBounds_toArray, List.set_cons_zero, List.set_cons_succ]; rfl) (hjoin (v27, v31, A33, c33) w3 ⟨ho31, (Kd.R_reads' ho33).2.2, hb33⟩)
                · skip
                  refine Kd.R_lit_step (Kd.int .i64) (w0 := wr) wr.heap.size 3 (by rfl) (N := 33) rfl (xs := [x]) (inner := [.int .i64 x]) (ok := fun _ => True) (okp := fun _ => False) ?hr (Reps.one rfl (Reps.none _ _)) (fun _ h => h.elim) trivial hb27 (below_size hb27) (by simp) ?_
                  case hr => first | (go_simp; done) | (go_simp; rfl)
                  rintro v33 w2 ho33 hb33 hg33 ⟨b33, e33, l33⟩
                  obtain ⟨A33, c33, rfl⟩ := Kd.R_slice ho33
                  refine hK.out _ _ trivial (fun _ => ?_)
                  clear hK K
                  refine norm_ (a' := ?_) ?_ ?_
                  rotate_left
                  · show Act.put _ (some 33) _ = _
                    simp only [Act.put, List.setIfInBounds_toArray, List.set_cons_zero, List.set_cons_succ, i64_w, i32_w]
                    rfl
                  have l27 := Kd.R_lt ho27
                  have ho27 := Kd.R_step ho27 (fun k _ hk => hg33.block k hk (fun e => by cases e))
                  refine one_ (i := 4) (N := some 31) #[true, true, true, true, true, true, true, false, true, true, true, false, false] rfl rfl (by kernel_rfl) (by decide) (fun K hK => ?_)
                  refine Kd.R_append_rows_step (Kd.int .i64) (w0 := wr) wr.heap.size (by rfl) (.tmp 27) (.tmp 30) 23 3 (.int .i64 0) 8 rfl Try.underlying23 info3 rfl (by decide) (by omega) v27 [] (O.take j) (some ad2) j c (fun _ => True) (fun _ => False) rfl rfl ho27 (HT1 _ hb33) (fun _ _ h => h) (fun _ h => h.elim) (fun _ _ => trivial) hb33 (below_size hb33) (by simp; omega) ?_
                  rintro v31 w3 ho31 hb31 hg31 -
                  refine hK.out _ _ trivial (fun _ => ?_)
                  clear hK K
                  refine norm_ (a' := ?_) ?_ ?_
                  rotate_left
                  · show Act.put _ (some 31) _ = _
                    simp only [Act.put, List.setIfInBounds_toArray, List.set_cons_zero, List.set_cons_succ, i64_w, i32_w]
                    rfl
                  have ho33 := Kd.R_step (R_only9 ho33 (ok' := fun k => k = b33) (fun k hk => Option.some.inj (hk.symm.trans e33))) (fun k hk hk2 => hg31.block k hk2 (fun e => by have := l27 k e.symm; omega))
                  exact norm_ (by simp only [putAll, Act.put, List.setIfInBounds_toArray, List.set_cons_zero, List.set_cons_succ]; rfl) (hjoin (v27, v31, A33, c33) w3 ⟨ho31, (Kd.R_reads' ho33).2.2, hb31⟩)
              · skip
                refine Kd.R_lit_step (Kd.int .i64) (w0 := wr) wr.heap.size 3 (by rfl) (N := 33) rfl (xs := [x]) (inner := [.int .i64 x]) (ok := fun _ => True) (okp := fun _ => False) ?hr (Reps.one rfl (Reps.none _ _)) (fun _ h => h.elim) trivial hbs (below_size hbs) (by simp) ?_
                case hr => first | (go_simp; done) | (go_simp; rfl)
                rintro v33 w1 ho33 hb33 hg33 ⟨b33, e33, l33⟩
                obtain ⟨A33, c33, rfl⟩ := Kd.R_slice ho33
                refine hK.out _ _ trivial (fun _ => ?_)
                clear hK K
                refine norm_ (a' := ?_) ?_ ?_
                rotate_left
                · show Act.put _ (some 33) _ = _
                  simp only [Act.put, List.setIfInBounds_toArray, List.set_cons_zero, List.set_cons_succ, i64_w, i32_w]
                  rfl
                have l33 := Kd.R_lt ho33
                refine one_ (i := 0) (N := some 27) #[true, true, true, true, false, true, true, false, true, true, true, false, false] rfl rfl (by kernel_rfl) (by decide) (fun K hK => ?_)
                refine Kd.R_lit_step (Kd.int .i64) (w0 := wr) wr.heap.size 3 (by rfl) (N := 27) rfl (xs := []) (inner := []) (ok := fun _ => True) (okp := fun _ => False) ?hr (Reps.none _ _) (fun _ h => h.elim) trivial hb33 (below_size hb33) (by simp) ?_
                case hr => first | (go_simp; done) | (go_simp; rfl)
                rintro v27 w2 ho27 hb27 hg27 ⟨b27, e27, l27⟩
                refine hK.out _ _ trivial (fun _ => ?_)
                clear hK K
                refine norm_ (a' := ?_) ?_ ?_
                rotate_left
                · show Act.put _ (some 27) _ = _
                  simp only [Act.put, List.setIfInBounds_toArray, List.set_cons_zero, List.set_cons_succ, i64_w, i32_w]
                  rfl
                have ho33 := Kd.R_step ho33 (fun k _ hk => hg27.block k hk (fun e => by cases e))
                refine one_ (i := 4) (N := some 31) #[true, true, true, true, true, true, true, false, true, true, true, false, false] rfl rfl (by kernel_rfl) (by decide) (fun K hK => ?_)
                refine Kd.R_append_rows_step (Kd.int .i64) (w0 := wr) wr.heap.size (by rfl) (.tmp 27) (.tmp 30) 23 3 (.int .i64 0) 8 rfl Try.underlying23 info3 rfl (by decide) (by omega) v27 [] (O.take j) (some ad2) j c (fun _ => True) (fun _ => False) rfl rfl ho27 (HT1 _ hb27) (fun _ _ h => h) (fun _ h => h.elim) (fun _ _ => trivial) hb27 (below_size hb27) (by simp; omega) ?_
                rintro v31 w3 ho31 hb31 hg31 -
                refine hK.out _ _ trivial (fun _ => ?_)
                clear hK K
                refine norm_ (a' := ?_) ?_ ?_
                rotate_left
                · show Act.put _ (some 31) _ = _
                  simp only [Act.put, List.setIfInBounds_toArray, List.set_cons_zero, List.set_cons_succ, i64_w, i32_w]
                  rfl
                have ho33 := Kd.R_step (R_only9 ho33 (ok' := fun k => k = b33) (fun k hk => Option.some.inj (hk.symm.trans e33))) (fun k hk hk2 => hg31.block k hk2 (fun e => by have := l33 b33 e33; rw [e27] at e; injection e with e; omega))
                exact norm_ (by simp only [putAll, Act.put, List.setIfInBounds_toArray, List.set_cons_zero, List.set_cons_succ]; rfl) (hjoin (v27, v31, A33, c33) w3 ⟨ho31, (Kd.R_reads' ho33).2.2, hb31⟩)
          · have hjz : ¬ (j : Int) < (O.length : Int) := by omega
            have HI9 := Aside0.mk (insR_at x O j (by have := HJ.out; omega) HA.out (fun h => absurd h hj))
            have hjl : j ≤ O.length := by have := HJ.out; omega
            have hjc : j ≤ c := Nat.le_trans hjl HRC.out.2.1
            go_wp2
            cases A with
            | none =>
              have HT1 : ∀ W', Below wr.heap.size wr W' → Kd.C (Kd.int .i64) W' none j (O.take j) := fun W' hb => C_upto (Kd.C_below HRC.out.2.2 hb) hjl
              have HT2 : ∀ W', Below wr.heap.size wr W' → Kd.C (Kd.int .i64) W' none (O.length - j) (O.drop j) := fun W' hb => C_fromN (Kd.C_below HRC.out.2.2 hb) hjl
              have hbs : Below wr.heap.size wr wr.drew := below_drew (Below.refl _ _)
              refine start_ (n := 13) (S := fun _ => True) (ds := []) #[false, false, false, false, false, false, false, false, false, false, false, false, false] (by kernel_rfl) rfl rfl trivial (fun _ => ?_)
              refine pure_ (i := 1) (N := some 28) (v := ?_) (a' := ?_) #[false, true, false, false, false, false, false, false, false, false, false, false, false] rfl rfl (by kernel_rfl) (fun _ _ _ h => h) (Or.inl ⟨by rfl, ?_⟩) ?_ ?_
              rotate_left
              · intro w'
                go_simp
                with_reducible rfl
              rotate_left
              · simp only [Act.put, List.setIfInBounds_toArray, List.set_cons_zero, List.set_cons_succ, i64_w, i32_w]
                rfl
              refine pure_ (i := 2) (N := some 29) (v := ?_) (a' := ?_) #[false, true, true, false, false, false, false, false, false, false, false, false, false] rfl rfl (by kernel_rfl) (fun _ _ _ h => h) (Or.inl ⟨by rfl, ?_⟩) ?_ ?_
              rotate_left
              · intro w'
                go_simp
                with_reducible rfl
              rotate_left
              · simp only [Act.put, List.setIfInBounds_toArray, List.set_cons_zero, List.set_cons_succ, i64_w, i32_w]
                rfl
              refine pure_ (i := 3) (N := some 30) (v := ?_) (a' := ?_) #[false, true, true, true, false, false, false, false, false, false, false, false, false] rfl rfl (by kernel_rfl) (fun _ _ _ h => h) (Or.inl ⟨by rfl, ?_⟩) ?_ ?_
              rotate_left
              · intro w'
                go_simp
                with_reducible rfl
              rotate_left
              · simp only [Act.put, List.setIfInBounds_toArray, List.set_cons_zero, List.set_cons_succ, i64_w, i32_w]
                rfl
              refine pure_ (i := 5) (N := some 32) (v := ?_) (a' := ?_) #[false, true, true, true, false, true, false, false, false, false, false, false, false] rfl rfl (by kernel_rfl) (fun _ _ _ h => h) (Or.inl ⟨by rfl, ?_⟩) ?_ ?_
              rotate_left
              · intro w'
                go_simp
                with_reducible rfl
              rotate_left
              · simp only [Act.put, List.setIfInBounds_toArray, List.set_cons_zero, List.set_cons_succ, i64_w, i32_w]
                rfl
              refine pure_ (i := 8) (N := some 35) (v := ?_) (a' := ?_) #[false, true, true, true, false, true, false, false, true, false, false, false, false] rfl rfl (by kernel_rfl) (fun _ _ _ h => h) (Or.inl ⟨by rfl, ?_⟩) ?_ ?_
              rotate_left
              · intro w'
                go_simp
                with_reducible rfl
              rotate_left
              · simp only [Act.put, List.setIfInBounds_toArray, List.set_cons_zero, List.set_cons_succ, i64_w, i32_w]
                rfl
              refine pure_ (i := 9) (N := some 36) (v := ?_) (a' := ?_) #[false, true, true, true, false, true, false, false, true, true, false, false, false] rfl rfl (by kernel_rfl) (fun _ _ _ h => h) (Or.inl ⟨by rfl, ?_⟩) ?_ ?_
              rotate_left
              · intro w'
                go_simp
                with_reducible rfl
              rotate_left
              · simp only [Act.put, List.setIfInBounds_toArray, List.set_cons_zero, List.set_cons_succ, i64_w, i32_w]
                rfl
              refine pure_ (i := 10) (N := some 37) (v := ?_) (a' := ?_) #[false, true, true, true, false, true, false, false, true, true, true, false, false] rfl rfl (by kernel_rfl) (fun _ _ _ h => h) (Or.inl ⟨by rfl, ?_⟩) ?_ ?_
              rotate_left
              · intro w'
                go_simp
                with_reducible rfl
              rotate_left
              · simp only [Act.put, List.setIfInBounds_toArray, List.set_cons_zero, List.set_cons_succ, i64_w, i32_w]
                rfl
              refine join_ (σ := Value × Value × Option Addr × Nat) 3 #[true, true, true, true, true, true, true, false, true, true, true, false, false] (fun s => [(27, s.1), (31, s.2.1), (33, .slice s.2.2.1 1 s.2.2.2)]) (fun s w' => Kd.R (Kd.int .i64) 3 w' wr.heap.size (fun _ => True) s.2.1 (O.take j) ∧ Kd.C (Kd.int .i64) w' s.2.2.1 1 [x] ∧ Below wr.heap.size wr w') ?tail (fun hjoin => ?_)
              case tail =>
                rintro ⟨v27, v31, A33, c33⟩ w5 ⟨ho31, hC33, hb5⟩
                refine norm_ (a' := ?_) ?_ ?_
                rotate_left
                · simp only [putAll, Act.put, List.setIfInBounds_toArray, List.set_cons_zero, List.set_cons_succ]
                  rfl
                refine one_ (i := 7) (N := some 34) #[true, true, true, true, true, true, true, true, true, true, true, false, false] rfl rfl (by kernel_rfl) (by decide) (fun K hK => ?_)
                refine Kd.R_append_rows_step (Kd.int .i64) (w0 := wr) wr.heap.size (by rfl) (.tmp 31) (.tmp 33) 23 3 (.int .i64 0) 8 rfl Try.underlying23 info3 rfl (by decide) (by omega) v31 (O.take j) [x] A33 1 c33 (fun _ => True) (fun _ => False) rfl rfl ho31 hC33 (fun _ _ h => h) (fun _ h => h.elim) (fun _ _ => trivial) hb5 (below_size hb5) (by simp; omega) ?_
                rintro v34 w6 ho34 hb6 hg34 -
                refine hK.out _ _ trivial (fun _ => ?_)
                clear hK K
                refine norm_ (a' := ?_) ?_ ?_
                rotate_left
                · show Act.put _ (some 34) _ = _
                  simp only [Act.put, List.setIfInBounds_toArray, List.set_cons_zero, List.set_cons_succ, i64_w, i32_w]
                  rfl
                refine one_ (i := 11) (N := some 38) #[true, true, true, true, true, true, true, true, true, true, true, true, false] rfl rfl (by kernel_rfl) (by decide) (fun K hK => ?_)
                refine Kd.R_append_rows_step (Kd.int .i64) (w0 := wr) wr.heap.size (by rfl) (.tmp 34) (.tmp 37) 23 3 (.int .i64 0) 8 rfl Try.underlying23 info3 rfl (by decide) (by omega) v34 (O.take j ++ [x]) (O.drop j) none (O.length - j) (c - j) (fun _ => True) (fun _ => False) rfl rfl ho34 (HT2 _ hb6) (fun _ _ h => h) (fun _ h => h.elim) (fun _ _ => trivial) hb6 (below_size hb6) (by simp; omega) ?_
                rintro v38 w7 ho38 hb7 hg38 -
                obtain ⟨A9, c9, rfl⟩ := Kd.R_slice ho38
                refine hK.out _ _ trivial (fun _ => ?_)
                clear hK K
                refine norm_ (a' := ?_) ?_ ?_
                rotate_left
                · show Act.put _ (some 38) _ = _
                  simp only [Act.put, List.setIfInBounds_toArray, List.set_cons_zero, List.set_cons_succ, i64_w, i32_w]
                  rfl
                refine pure_ (i := 12) (N := some 3) (v := ?_) (a' := ?_) #[true, true, true, true, true, true, true, true, true, true, true, true, true] rfl rfl (by kernel_rfl) (fun _ _ _ h => h) (Or.inl ⟨by rfl, ?_⟩) ?_ ?_
                rotate_left
                · intro w'
                  go_simp
                  with_reducible rfl
                rotate_left
                · simp only [Act.put, List.setIfInBounds_toArray, List.set_cons_zero, List.set_cons_succ, i64_w, i32_w]
                  rfl
                refine done_ (by kernel_rfl) ?_
                have HEQ := Aside0.mk (show O.take j ++ [x] ++ O.drop j = risR (l1.take (i + 1)) by rw [HTK.out, risR_snoc, HO.out, HI9.out]; simp)
                have HO38 := Aside0.mk ho38
                have HB7 := Aside0.mk hb7
                clear ho31 hC33 hb5 ho34 hb6 hg34 ho38 hb7 hg38 HT1 HT2
                obtain ⟨L9, hL9⟩ : ∃ L9, (O.take j ++ [x] ++ O.drop j).length = L9 := ⟨_, rfl⟩
                rw [hL9]
                have HL9 := Aside0.mk hL9
                clear hL9
                try (generalize (if c = j then some ad2 else some (ad2.add j)) = A77)
                go_wp2
                go_roundg (G - 1)
                case measure => have := HI.out; omega
                case rel => exact ⟨i + 1, A9, c9, by go_num, (by rw [← HEQ.out, HL9.out]; have h6 := HL9.out; simp only [List.length_append, List.length_take, List.length_drop, List.length_cons, List.length_nil] at h6; rw [show j + (O.length - j + 1) = L9 by omega]), ⟨by have := HI.out; omega⟩, ⟨by rw [← HEQ.out]; exact Kd.R_lower HO38.out (below_size HB.out)⟩, ⟨HB.out.trans (HB7.out.mono (below_size HB.out))⟩⟩
              refine two_ (i := 0) (j := 6) (Ni := some 27) (Nj := some 33) #[true, true, true, true, false, true, false, false, true, true, true, false, false] #[false, true, true, true, false, true, true, false, true, true, true, false, false] rfl rfl rfl rfl (by kernel_rfl) (by decide) (by decide) (fun K hK => ?_) (fun K hK => ?_)
              · skip
                refine Kd.R_lit_step (Kd.int .i64) (w0 := wr) wr.heap.size 3 (by rfl) (N := 27) rfl (xs := []) (inner := []) (ok := fun _ => True) (okp := fun _ => False) ?hr (Reps.none _ _) (fun _ h => h.elim) trivial hbs (below_size hbs) (by simp) ?_
                case hr => first | (go_simp; done) | (go_simp; rfl)
                rintro v27 w1 ho27 hb27 hg27 -
                refine hK.out _ _ trivial (fun _ => ?_)
                clear hK K
                refine norm_ (a' := ?_) ?_ ?_
                rotate_left
                · show Act.put _ (some 27) _ = _
                  simp only [Act.put, List.setIfInBounds_toArray, List.set_cons_zero, List.set_cons_succ, i64_w, i32_w]
                  rfl
                refine two_ (i := 4) (j := 6) (Ni := some 31) (Nj := some 33) #[true, true, true, true, true, true, false, false, true, true, true, false, false] #[true, true, true, true, false, true, true, false, true, true, true, false, false] rfl rfl rfl rfl (by kernel_rfl) (by decide) (by decide) (fun K hK => ?_) (fun K hK => ?_)
                · skip
                  refine Kd.R_append_rows_step (Kd.int .i64) (w0 := wr) wr.heap.size (by rfl) (.tmp 27) (.tmp 30) 23 3 (.int .i64 0) 8 rfl Try.underlying23 info3 rfl (by decide) (by omega) v27 [] (O.take j) none j c (fun _ => True) (fun _ => False) rfl rfl ho27 (HT1 _ hb27) (fun _ _ h => h) (fun _ h => h.elim) (fun _ _ => trivial) hb27 (below_size hb27) (by simp; omega) ?_
                  rintro v31 w2 ho31 hb31 hg31 -
                  refine hK.out _ _ trivial (fun _ => ?_)
                  clear hK K
                  refine norm_ (a' := ?_) ?_ ?_
                  rotate_left
                  · show Act.put _ (some 31) _ = _
                    simp only [Act.put, List.setIfInBounds_toArray, List.set_cons_zero, List.set_cons_succ, i64_w, i32_w]
                    rfl
                  refine one_ (i := 6) (N := some 33) #[true, true, true, true, true, true, true, false, true, true, true, false, false] rfl rfl (by kernel_rfl) (by decide) (fun K hK => ?_)
                  refine Kd.R_lit_step (Kd.int .i64) (w0 := wr) wr.heap.size 3 (by rfl) (N := 33) rfl (xs := [x]) (inner := [.int .i64 x]) (ok := fun _ => True) (okp := fun _ => False) ?hr (Reps.one rfl (Reps.none _ _)) (fun _ h => h.elim) trivial hb31 (below_size hb31) (by simp) ?_
                  case hr => first | (go_simp; done) | (go_simp; rfl)
                  rintro v33 w3 ho33 hb33 hg33 ⟨b33, e33, l33⟩
                  obtain ⟨A33, c33, rfl⟩ := Kd.R_slice ho33
                  refine hK.out _ _ trivial (fun _ => ?_)
                  clear hK K
                  refine norm_ (a' := ?_) ?_ ?_
                  rotate_left
                  · show Act.put _ (some 33) _ = _
                    simp only [Act.put, List.setIfInBounds_toArray, List.set_cons_zero, List.set_cons_succ, i64_w, i32_w]
                    rfl
                  have ho31 := Kd.R_step ho31 (fun k _ hk => hg33.block k hk (fun e => by cases e))
                  exact norm_ (by simp only [putAll, Act.put, List.setIfInBounds_toArray, List.set_cons_zero, List.set_cons_succ]; rfl) (hjoin (v27, v31, A33, c33) w3 ⟨ho31, (Kd.R_reads' ho33).2.2, hb33⟩)
                · skip
                  refine Kd.R_lit_step (Kd.int .i64) (w0 := wr) wr.heap.size 3 (by rfl) (N := 33) rfl (xs := [x]) (inner := [.int .i64 x]) (ok := fun _ => True) (okp := fun _ => False) ?hr (Reps.one rfl (Reps.none _ _)) (fun _ h => h.elim) trivial hb27 (below_size hb27) (by simp) ?_
                  case hr => first | (go_simp; done) | (go_simp; rfl)
                  rintro v33 w2 ho33 hb33 hg33 ⟨b33, e33, l33⟩
                  obtain ⟨A33, c33, rfl⟩ := Kd.R_slice ho33
                  refine hK.out _ _ trivial (fun _ => ?_)
                  clear hK K
                  refine norm_ (a' := ?_) ?_ ?_
                  rotate_left
                  · show Act.put _ (some 33) _ = _
                    simp only [Act.put, List.setIfInBounds_toArray, List.set_cons_zero, List.set_cons_succ, i64_w, i32_w]
                    rfl
                  have l27 := Kd.R_lt ho27
                  have ho27 := Kd.R_step ho27 (fun k _ hk => hg33.block k hk (fun e => by cases e))
                  refine one_ (i := 4) (N := some 31) #[true, true, true, true, true, true, true, false, true, true, true, false, false] rfl rfl (by kernel_rfl) (by decide) (fun K hK => ?_)
                  refine Kd.R_append_rows_step (Kd.int .i64) (w0 := wr) wr.heap.size (by rfl) (.tmp 27) (.tmp 30) 23 3 (.int .i64 0) 8 rfl Try.underlying23 info3 rfl (by decide) (by omega) v27 [] (O.take j) none j c (fun _ => True) (fun _ => False) rfl rfl ho27 (HT1 _ hb33) (fun _ _ h => h) (fun _ h => h.elim) (fun _ _ => trivial) hb33 (below_size hb33) (by simp; omega) ?_
                  rintro v31 w3 ho31 hb31 hg31 -
                  refine hK.out _ _ trivial (fun _ => ?_)
                  clear hK K
                  refine norm_ (a' := ?_) ?_ ?_
                  rotate_left
                  · show Act.put _ (some 31) _ = _
                    simp only [Act.put, List.setIfInBounds_toArray, List.set_cons_zero, List.set_cons_succ, i64_w, i32_w]
                    rfl
                  have ho33 := Kd.R_step (R_only9 ho33 (ok' := fun k => k = b33) (fun k hk => Option.some.inj (hk.symm.trans e33))) (fun k hk hk2 => hg31.block k hk2 (fun e => by have := l27 k e.symm; omega))
                  exact norm_ (by simp only [putAll, Act.put, List.setIfInBounds_toArray, List.set_cons_zero, List.set_cons_succ]; rfl) (hjoin (v27, v31, A33, c33) w3 ⟨ho31, (Kd.R_reads' ho33).2.2, hb31⟩)
              · skip
                refine Kd.R_lit_step (Kd.int .i64) (w0 := wr) wr.heap.size 3 (by rfl) (N := 33) rfl (xs := [x]) (inner := [.int .i64 x]) (ok := fun _ => True) (okp := fun _ => False) ?hr (Reps.one rfl (Reps.none _ _)) (fun _ h => h.elim) trivial hbs (below_size hbs) (by simp) ?_
                case hr => first | (go_simp; done) | (go_simp; rfl)
                rintro v33 w1 ho33 hb33 hg33 ⟨b33, e33, l33⟩
                obtain ⟨A33, c33, rfl⟩ := Kd.R_slice ho33
                refine hK.out _ _ trivial (fun _ => ?_)
                clear hK K
                refine norm_ (a' := ?_) ?_ ?_
                rotate_left
                · show Act.put _ (some 33) _ = _
                  simp only [Act.put, List.setIfInBounds_toArray, List.set_cons_zero, List.set_cons_succ, i64_w, i32_w]
                  rfl
                have l33 := Kd.R_lt ho33
                refine one_ (i := 0) (N := some 27) #[true, true, true, true, false, true, true, false, true, true, true, false, false] rfl rfl (by kernel_rfl) (by decide) (fun K hK => ?_)
                refine Kd.R_lit_step (Kd.int .i64) (w0 := wr) wr.heap.size 3 (by rfl) (N := 27) rfl (xs := []) (inner := []) (ok := fun _ => True) (okp := fun _ => False) ?hr (Reps.none _ _) (fun _ h => h.elim) trivial hb33 (below_size hb33) (by simp) ?_
                case hr => first | (go_simp; done) | (go_simp; rfl)
                rintro v27 w2 ho27 hb27 hg27 ⟨b27, e27, l27⟩
                refine hK.out _ _ trivial (fun _ => ?_)
                clear hK K
                refine norm_ (a' := ?_) ?_ ?_
                rotate_left
                · show Act.put _ (some 27) _ = _
                  simp only [Act.put, List.setIfInBounds_toArray, List.set_cons_zero, List.set_cons_succ, i64_w, i32_w]
                  rfl
                have ho33 := Kd.R_step ho33 (fun k _ hk => hg27.block k hk (fun e => by cases e))
                refine one_ (i := 4) (N := some 31) #[true, true, true, true, true, true, true, false, true, true, true, false, false] rfl rfl (by kernel_rfl) (by decide) (fun K hK => ?_)
                refine Kd.R_append_rows_step (Kd.int .i64) (w0 := wr) wr.heap.size (by rfl) (.tmp 27) (.tmp 30) 23 3 (.int .i64 0) 8 rfl Try.underlying23 info3 rfl (by decide) (by omega) v27 [] (O.take j) none j c (fun _ => True) (fun _ => False) rfl rfl ho27 (HT1 _ hb27) (fun _ _ h => h) (fun _ h => h.elim) (fun _ _ => trivial) hb27 (below_size hb27) (by simp; omega) ?_
                rintro v31 w3 ho31 hb31 hg31 -
                refine hK.out _ _ trivial (fun _ => ?_)
                clear hK K
                refine norm_ (a' := ?_) ?_ ?_
                rotate_left
                · show Act.put _ (some 31) _ = _
                  simp only [Act.put, List.setIfInBounds_toArray, List.set_cons_zero, List.set_cons_succ, i64_w, i32_w]
                  rfl
                have ho33 := Kd.R_step (R_only9 ho33 (ok' := fun k => k = b33) (fun k hk => Option.some.inj (hk.symm.trans e33))) (fun k hk hk2 => hg31.block k hk2 (fun e => by have := l33 b33 e33; rw [e27] at e; injection e with e; omega))
                exact norm_ (by simp only [putAll, Act.put, List.setIfInBounds_toArray, List.set_cons_zero, List.set_cons_succ]; rfl) (hjoin (v27, v31, A33, c33) w3 ⟨ho31, (Kd.R_reads' ho33).2.2, hb31⟩)
            | some ad2 =>
              have HT1 : ∀ W', Below wr.heap.size wr W' → Kd.C (Kd.int .i64) W' (some ad2) j (O.take j) := fun W' hb => C_upto (Kd.C_below HRC.out.2.2 hb) hjl
              have HT2 : ∀ W', Below wr.heap.size wr W' → Kd.C (Kd.int .i64) W' (if c = j then some ad2 else some (ad2.add j)) (O.length - j) (O.drop j) := fun W' hb => C_from (Kd.C_below HRC.out.2.2 hb) hjl HRC.out.2.1
              have hbs : Below wr.heap.size wr wr.drew := below_drew (Below.refl _ _)
              refine start_ (n := 13) (S := fun _ => True) (ds := []) #[false, false, false, false, false, false, false, false, false, false, false, false, false] (by kernel_rfl) rfl rfl trivial (fun _ => ?_)
              refine pure_ (i := 1) (N := some 28) (v := ?_) (a' := ?_) #[false, true, false, false, false, false, false, false, false, false, false, false, false] rfl rfl (by kernel_rfl) (fun _ _ _ h => h) (Or.inl ⟨by rfl, ?_⟩) ?_ ?_
              rotate_left
              · intro w'
                go_simp
                with_reducible rfl
              rotate_left
              · simp only [Act.put, List.setIfInBounds_toArray, List.set_cons_zero, List.set_cons_succ, i64_w, i32_w]
                rfl
              refine pure_ (i := 2) (N := some 29) (v := ?_) (a' := ?_) #[false, true, true, false, false, false, false, false, false, false, false, false, false] rfl rfl (by kernel_rfl) (fun _ _ _ h => h) (Or.inl ⟨by rfl, ?_⟩) ?_ ?_
              rotate_left
              · intro w'
                go_simp
                with_reducible rfl
              rotate_left
              · simp only [Act.put, List.setIfInBounds_toArray, List.set_cons_zero, List.set_cons_succ, i64_w, i32_w]
                rfl
              refine pure_ (i := 3) (N := some 30) (v := ?_) (a' := ?_) #[false, true, true, true, false, false, false, false, false, false, false, false, false] rfl rfl (by kernel_rfl) (fun _ _ _ h => h) (Or.inl ⟨by rfl, ?_⟩) ?_ ?_
              rotate_left
              · intro w'
                go_simp
                with_reducible rfl
              rotate_left
              · simp only [Act.put, List.setIfInBounds_toArray, List.set_cons_zero, List.set_cons_succ, i64_w, i32_w]
                rfl
              refine pure_ (i := 5) (N := some 32) (v := ?_) (a' := ?_) #[false, true, true, true, false, true, false, false, false, false, false, false, false] rfl rfl (by kernel_rfl) (fun _ _ _ h => h) (Or.inl ⟨by rfl, ?_⟩) ?_ ?_
              rotate_left
              · intro w'
                go_simp
                with_reducible rfl
              rotate_left
              · simp only [Act.put, List.setIfInBounds_toArray, List.set_cons_zero, List.set_cons_succ, i64_w, i32_w]
                rfl
              refine pure_ (i := 8) (N := some 35) (v := ?_) (a' := ?_) #[false, true, true, true, false, true, false, false, true, false, false, false, false] rfl rfl (by kernel_rfl) (fun _ _ _ h => h) (Or.inl ⟨by rfl, ?_⟩) ?_ ?_
              rotate_left
              · intro w'
                go_simp
                with_reducible rfl
              rotate_left
              · simp only [Act.put, List.setIfInBounds_toArray, List.set_cons_zero, List.set_cons_succ, i64_w, i32_w]
                rfl
              refine pure_ (i := 9) (N := some 36) (v := ?_) (a' := ?_) #[false, true, true, true, false, true, false, false, true, true, false, false, false] rfl rfl (by kernel_rfl) (fun _ _ _ h => h) (Or.inl ⟨by rfl, ?_⟩) ?_ ?_
              rotate_left
              · intro w'
                go_simp
                with_reducible rfl
              rotate_left
              · simp only [Act.put, List.setIfInBounds_toArray, List.set_cons_zero, List.set_cons_succ, i64_w, i32_w]
                rfl
              refine pure_ (i := 10) (N := some 37) (v := ?_) (a' := ?_) #[false, true, true, true, false, true, false, false, true, true, true, false, false] rfl rfl (by kernel_rfl) (fun _ _ _ h => h) (Or.inl ⟨by rfl, ?_⟩) ?_ ?_
              rotate_left
              · intro w'
                go_simp
                with_reducible rfl
              rotate_left
              · simp only [Act.put, List.setIfInBounds_toArray, List.set_cons_zero, List.set_cons_succ, i64_w, i32_w]
                rfl
              refine join_ (σ := Value × Value × Option Addr × Nat) 3 #[true, true, true, true, true, true, true, false, true, true, true, false, false] (fun s => [(27, s.1), (31, s.2.1), (33, .slice s.2.2.1 1 s.2.2.2)]) (fun s w' => Kd.R (Kd.int .i64) 3 w' wr.heap.size (fun _ => True) s.2.1 (O.take j) ∧ Kd.C (Kd.int .i64) w' s.2.2.1 1 [x] ∧ Below wr.heap.size wr w') ?tail (fun hjoin => ?_)
              case tail =>
                rintro ⟨v27, v31, A33, c33⟩ w5 ⟨ho31, hC33, hb5⟩
                refine norm_ (a' := ?_) ?_ ?_
                rotate_left
                · simp only [putAll, Act.put, List.setIfInBounds_toArray, List.set_cons_zero, List.set_cons_succ]
                  rfl
                refine one_ (i := 7) (N := some 34) #[true, true, true, true, true, true, true, true, true, true, true, false, false] rfl rfl (by kernel_rfl) (by decide) (fun K hK => ?_)
                refine Kd.R_append_rows_step (Kd.int .i64) (w0 := wr) wr.heap.size (by rfl) (.tmp 31) (.tmp 33) 23 3 (.int .i64 0) 8 rfl Try.underlying23 info3 rfl (by decide) (by omega) v31 (O.take j) [x] A33 1 c33 (fun _ => True) (fun _ => False) rfl rfl ho31 hC33 (fun _ _ h => h) (fun _ h => h.elim) (fun _ _ => trivial) hb5 (below_size hb5) (by simp; omega) ?_
                rintro v34 w6 ho34 hb6 hg34 -
                refine hK.out _ _ trivial (fun _ => ?_)
                clear hK K
                refine norm_ (a' := ?_) ?_ ?_
                rotate_left
                · show Act.put _ (some 34) _ = _
                  simp only [Act.put, List.setIfInBounds_toArray, List.set_cons_zero, List.set_cons_succ, i64_w, i32_w]
                  rfl
                refine one_ (i := 11) (N := some 38) #[true, true, true, true, true, true, true, true, true, true, true, true, false] rfl rfl (by kernel_rfl) (by decide) (fun K hK => ?_)
                refine Kd.R_append_rows_step (Kd.int .i64) (w0 := wr) wr.heap.size (by rfl) (.tmp 34) (.tmp 37) 23 3 (.int .i64 0) 8 rfl Try.underlying23 info3 rfl (by decide) (by omega) v34 (O.take j ++ [x]) (O.drop j) (if c = j then some ad2 else some (ad2.add j)) (O.length - j) (c - j) (fun _ => True) (fun _ => False) rfl rfl ho34 (HT2 _ hb6) (fun _ _ h => h) (fun _ h => h.elim) (fun _ _ => trivial) hb6 (below_size hb6) (by simp; omega) ?_
                rintro v38 w7 ho38 hb7 hg38 -
                obtain ⟨A9, c9, rfl⟩ := Kd.R_slice ho38
                refine hK.out _ _ trivial (fun _ => ?_)
                clear hK K
                refine norm_ (a' := ?_) ?_ ?_
                rotate_left
                · show Act.put _ (some 38) _ = _
                  simp only [Act.put, List.setIfInBounds_toArray, List.set_cons_zero, List.set_cons_succ, i64_w, i32_w]
                  rfl
                refine pure_ (i := 12) (N := some 3) (v := ?_) (a' := ?_) #[true, true, true, true, true, true, true, true, true, true, true, true, true] rfl rfl (by kernel_rfl) (fun _ _ _ h => h) (Or.inl ⟨by rfl, ?_⟩) ?_ ?_
                rotate_left
                · intro w'
                  go_simp
                  with_reducible rfl
                rotate_left
                · simp only [Act.put, List.setIfInBounds_toArray, List.set_cons_zero, List.set_cons_succ, i64_w, i32_w]
                  rfl
                refine done_ (by kernel_rfl) ?_
                have HEQ := Aside0.mk (show O.take j ++ [x] ++ O.drop j = risR (l1.take (i + 1)) by rw [HTK.out, risR_snoc, HO.out, HI9.out]; simp)
                have HO38 := Aside0.mk ho38
                have HB7 := Aside0.mk hb7
                clear ho31 hC33 hb5 ho34 hb6 hg34 ho38 hb7 hg38 HT1 HT2
                obtain ⟨L9, hL9⟩ : ∃ L9, (O.take j ++ [x] ++ O.drop j).length = L9 := ⟨_, rfl⟩
                rw [hL9]
                have HL9 := Aside0.mk hL9
                clear hL9
                try (generalize (if c = j then some ad2 else some (ad2.add j)) = A77)
                go_wp2
                go_roundg (G - 1)
                case measure => have := HI.out; omega
                case rel => exact ⟨i + 1, A9, c9, by go_num, (by rw [← HEQ.out, HL9.out]; have h6 := HL9.out; simp only [List.length_append, List.length_take, List.length_drop, List.length_cons, List.length_nil] at h6; rw [show j + (O.length - j + 1) = L9 by omega]), ⟨by have := HI.out; omega⟩, ⟨by rw [← HEQ.out]; exact Kd.R_lower HO38.out (below_size HB.out)⟩, ⟨HB.out.trans (HB7.out.mono (below_size HB.out))⟩⟩
              refine two_ (i := 0) (j := 6) (Ni := some 27) (Nj := some 33) #[true, true, true, true, false, true, false, false, true, true, true, false, false] #[false, true, true, true, false, true, true, false, true, true, true, false, false] rfl rfl rfl rfl (by kernel_rfl) (by decide) (by decide) (fun K hK => ?_) (fun K hK => ?_)
              · skip
                refine Kd.R_lit_step (Kd.int .i64) (w0 := wr) wr.heap.size 3 (by rfl) (N := 27) rfl (xs := []) (inner := []) (ok := fun _ => True) (okp := fun _ => False) ?hr (Reps.none _ _) (fun _ h => h.elim) trivial hbs (below_size hbs) (by simp) ?_
                case hr => first | (go_simp; done) | (go_simp; rfl)
                rintro v27 w1 ho27 hb27 hg27 -
                refine hK.out _ _ trivial (fun _ => ?_)
                clear hK K
                refine norm_ (a' := ?_) ?_ ?_
                rotate_left
                · show Act.put _ (some 27) _ = _
                  simp only [Act.put, List.setIfInBounds_toArray, List.set_cons_zero, List.set_cons_succ, i64_w, i32_w]
                  rfl
                refine two_ (i := 4) (j := 6) (Ni := some 31) (Nj := some 33) #[true, true, true, true, true, true, false, false, true, true, true, false, false] #[true, true, true, true, false, true, true, false, true, true, true, false, false] rfl rfl rfl rfl (by kernel_rfl) (by decide) (by decide) (fun K hK => ?_) (fun K hK => ?_)
                · skip
                  refine Kd.R_append_rows_step (Kd.int .i64) (w0 := wr) wr.heap.size (by rfl) (.tmp 27) (.tmp 30) 23 3 (.int .i64 0) 8 rfl Try.underlying23 info3 rfl (by decide) (by omega) v27 [] (O.take j) (some ad2) j c (fun _ => True) (fun _ => False) rfl rfl ho27 (HT1 _ hb27) (fun _ _ h => h) (fun _ h => h.elim) (fun _ _ => trivial) hb27 (below_size hb27) (by simp; omega) ?_
                  rintro v31 w2 ho31 hb31 hg31 -
                  refine hK.out _ _ trivial (fun _ => ?_)
                  clear hK K
                  refine norm_ (a' := ?_) ?_ ?_
                  rotate_left
                  · show Act.put _ (some 31) _ = _
                    simp only [Act.put, List.setIfInBounds_toArray, List.set_cons_zero, List.set_cons_succ, i64_w, i32_w]
                    rfl
                  refine one_ (i := 6) (N := some 33) #[true, true, true, true, true, true, true, false, true, true, true, false, false] rfl rfl (by kernel_rfl) (by decide) (fun K hK => ?_)
                  refine Kd.R_lit_step (Kd.int .i64) (w0 := wr) wr.heap.size 3 (by rfl) (N := 33) rfl (xs := [x]) (inner := [.int .i64 x]) (ok := fun _ => True) (okp := fun _ => False) ?hr (Reps.one rfl (Reps.none _ _)) (fun _ h => h.elim) trivial hb31 (below_size hb31) (by simp) ?_
                  case hr => first | (go_simp; done) | (go_simp; rfl)
                  rintro v33 w3 ho33 hb33 hg33 ⟨b33, e33, l33⟩
                  obtain ⟨A33, c33, rfl⟩ := Kd.R_slice ho33
                  refine hK.out _ _ trivial (fun _ => ?_)
                  clear hK K
                  refine norm_ (a' := ?_) ?_ ?_
                  rotate_left
                  · show Act.put _ (some 33) _ = _
                    simp only [Act.put, List.setIfInBounds_toArray, List.set_cons_zero, List.set_cons_succ, i64_w, i32_w]
                    rfl
                  have ho31 := Kd.R_step ho31 (fun k _ hk => hg33.block k hk (fun e => by cases e))
                  exact norm_ (by simp only [putAll, Act.put, List.setIfInBounds_toArray, List.set_cons_zero, List.set_cons_succ]; rfl) (hjoin (v27, v31, A33, c33) w3 ⟨ho31, (Kd.R_reads' ho33).2.2, hb33⟩)
                · skip
                  refine Kd.R_lit_step (Kd.int .i64) (w0 := wr) wr.heap.size 3 (by rfl) (N := 33) rfl (xs := [x]) (inner := [.int .i64 x]) (ok := fun _ => True) (okp := fun _ => False) ?hr (Reps.one rfl (Reps.none _ _)) (fun _ h => h.elim) trivial hb27 (below_size hb27) (by simp) ?_
                  case hr => first | (go_simp; done) | (go_simp; rfl)
                  rintro v33 w2 ho33 hb33 hg33 ⟨b33, e33, l33⟩
                  obtain ⟨A33, c33, rfl⟩ := Kd.R_slice ho33
                  refine hK.out _ _ trivial (fun _ => ?_)
                  clear hK K
                  refine norm_ (a' := ?_) ?_ ?_
                  rotate_left
                  · show Act.put _ (some 33) _ = _
                    simp only [Act.put, List.setIfInBounds_toArray, List.set_cons_zero, List.set_cons_succ, i64_w, i32_w]
                    rfl
                  have l27 := Kd.R_lt ho27
                  have ho27 := Kd.R_step ho27 (fun k _ hk => hg33.block k hk (fun e => by cases e))
                  refine one_ (i := 4) (N := some 31) #[true, true, true, true, true, true, true, false, true, true, true, false, false] rfl rfl (by kernel_rfl) (by decide) (fun K hK => ?_)
                  refine Kd.R_append_rows_step (Kd.int .i64) (w0 := wr) wr.heap.size (by rfl) (.tmp 27) (.tmp 30) 23 3 (.int .i64 0) 8 rfl Try.underlying23 info3 rfl (by decide) (by omega) v27 [] (O.take j) (some ad2) j c (fun _ => True) (fun _ => False) rfl rfl ho27 (HT1 _ hb33) (fun _ _ h => h) (fun _ h => h.elim) (fun _ _ => trivial) hb33 (below_size hb33) (by simp; omega) ?_
                  rintro v31 w3 ho31 hb31 hg31 -
                  refine hK.out _ _ trivial (fun _ => ?_)
                  clear hK K
                  refine norm_ (a' := ?_) ?_ ?_
                  rotate_left
                  · show Act.put _ (some 31) _ = _
                    simp only [Act.put, List.setIfInBounds_toArray, List.set_cons_zero, List.set_cons_succ, i64_w, i32_w]
                    rfl
                  have ho33 := Kd.R_step (R_only9 ho33 (ok' := fun k => k = b33) (fun k hk => Option.some.inj (hk.symm.trans e33))) (fun k hk hk2 => hg31.block k hk2 (fun e => by have := l27 k e.symm; omega))
                  exact norm_ (by simp only [putAll, Act.put, List.setIfInBounds_toArray, List.set_cons_zero, List.set_cons_succ]; rfl) (hjoin (v27, v31, A33, c33) w3 ⟨ho31, (Kd.R_reads' ho33).2.2, hb31⟩)
              · skip
                refine Kd.R_lit_step (Kd.int .i64) (w0 := wr) wr.heap.size 3 (by rfl) (N := 33) rfl (xs := [x]) (inner := [.int .i64 x]) (ok := fun _ => True) (okp := fun _ => False) ?hr (Reps.one rfl (Reps.none _ _)) (fun _ h => h.elim) trivial hbs (below_size hbs) (by simp) ?_
                case hr => first | (go_simp; done) | (go_simp; rfl)
                rintro v33 w1 ho33 hb33 hg33 ⟨b33, e33, l33⟩
                obtain ⟨A33, c33, rfl⟩ := Kd.R_slice ho33
                refine hK.out _ _ trivial (fun _ => ?_)
                clear hK K
                refine norm_ (a' := ?_) ?_ ?_
                rotate_left
                · show Act.put _ (some 33) _ = _
                  simp only [Act.put, List.setIfInBounds_toArray, List.set_cons_zero, List.set_cons_succ, i64_w, i32_w]
                  rfl
                have l33 := Kd.R_lt ho33
                refine one_ (i := 0) (N := some 27) #[true, true, true, true, false, true, true, false, true, true, true, false, false] rfl rfl (by kernel_rfl) (by decide) (fun K hK => ?_)
                refine Kd.R_lit_step (Kd.int .i64) (w0 := wr) wr.heap.size 3 (by rfl) (N := 27) rfl (xs := []) (inner := []) (ok := fun _ => True) (okp := fun _ => False) ?hr (Reps.none _ _) (fun _ h => h.elim) trivial hb33 (below_size hb33) (by simp) ?_
                case hr => first | (go_simp; done) | (go_simp; rfl)
                rintro v27 w2 ho27 hb27 hg27 ⟨b27, e27, l27⟩
                refine hK.out _ _ trivial (fun _ => ?_)
                clear hK K
                refine norm_ (a' := ?_) ?_ ?_
                rotate_left
                · show Act.put _ (some 27) _ = _
                  simp only [Act.put, List.setIfInBounds_toArray, List.set_cons_zero, List.set_cons_succ, i64_w, i32_w]
                  rfl
                have ho33 := Kd.R_step ho33 (fun k _ hk => hg27.block k hk (fun e => by cases e))
                refine one_ (i := 4) (N := some 31) #[true, true, true, true, true, true, true, false, true, true, true, false, false] rfl rfl (by kernel_rfl) (by decide) (fun K hK => ?_)
                refine Kd.R_append_rows_step (Kd.int .i64) (w0 := wr) wr.heap.size (by rfl) (.tmp 27) (.tmp 30) 23 3 (.int .i64 0) 8 rfl Try.underlying23 info3 rfl (by decide) (by omega) v27 [] (O.take j) (some ad2) j c (fun _ => True) (fun _ => False) rfl rfl ho27 (HT1 _ hb27) (fun _ _ h => h) (fun _ h => h.elim) (fun _ _ => trivial) hb27 (below_size hb27) (by simp; omega) ?_
                rintro v31 w3 ho31 hb31 hg31 -
                refine hK.out _ _ trivial (fun _ => ?_)
                clear hK K
                refine norm_ (a' := ?_) ?_ ?_
                rotate_left
                · show Act.put _ (some 31) _ = _
                  simp only [Act.put, List.setIfInBounds_toArray, List.set_cons_zero, List.set_cons_succ, i64_w, i32_w]
                  rfl
                have ho33 := Kd.R_step (R_only9 ho33 (ok' := fun k => k = b33) (fun k hk => Option.some.inj (hk.symm.trans e33))) (fun k hk hk2 => hg31.block k hk2 (fun e => by have := l33 b33 e33; rw [e27] at e; injection e with e; omega))
                exact norm_ (by simp only [putAll, Act.put, List.setIfInBounds_toArray, List.set_cons_zero, List.set_cons_succ]; rfl) (hjoin (v27, v31, A33, c33) w3 ⟨ho31, (Kd.R_reads' ho33).2.2, hb31⟩)
      · have hil : i = l1.length := by have := HI.out; omega
        have HIL := Aside0.mk hil
        clear hil
        have hltz : ¬ (i : Int) < (l1.length : Int) := by omega
        have HEQ := Aside0.mk (show risR (l1.take i) = r by rw [HIL.out, List.take_length]; exact HRES.out)
        go_wp2
        go_ret
        refine ⟨_, rfl, ?_, HB.out⟩
        have h1 := HR.out
        rw [HEQ.out] at h1
        rw [HEQ.out]
        exact h1
  · rw [if_neg hc] at h; cases h

end Go.Proofs.Ytfjafmgaahfhgaa.P
namespace Go.Proofs.Ytfjafmgaahfhgaa.P
open Go.RowKit Go.Proofs.YtfjafmgaahfhgaaW.PrintWords Go.Proofs.YtfjafmgaahfhgaaW.PrintLast Go.Proofs.YtfjafmgaahfhgaaW.PrintMore
attribute [local go_sem] max2_int min2_int max_two min_two max_three min_three max_four min_four   -- for this text's walks alone
set_option linter.unusedVariables false
set_option linter.unusedSimpArgs false

/-! ### sackbutlaw06_list: function 19 -/
def sackbutlaw06_list.f (l0 : List Int) : Option (List Int) := if 0 ≤ (mn (l0.length : Int) 9) then (if (mn (l0.length : Int) 9) ≤ (l0.length : Int) then ((slices_Clone_int_int.f (l0.take ((mn (l0.length : Int) 9) : Int).toNat)).bind fun t1003 => (some t1003)) else (none)) else (none)
set_option maxHeartbeats 8000000 in
set_option maxRecDepth 100000 in
theorem sackbutlaw06_list.calls (A0 : Option Addr) (c0 : Nat) (l0 : List Int) (r : List Int) (w : World) (hr0 : Kd.C (Kd.int .i64) w A0 l0.length l0) (hc0 : l0.length ≤ c0) (h : sackbutlaw06_list.f l0 = some r) :
    Calls Try.prog 19 #[.slice A0 l0.length c0] w fun e w' => ∃ v0_ : Value, e = .returned (v0_) ∧ Kd.R (Kd.int .i64) 3 w' w.heap.size (fun _ => True) v0_ r ∧ Below w.heap.size w w' := by
  have HR0 := Aside0.mk hr0
  have HC0 := Aside0.mk hc0
  clear hr0 hc0
  have HB := Aside0.mk (Below.refl w.heap.size w)
  have H : (if 0 ≤ (mn (l0.length : Int) 9) then (if (mn (l0.length : Int) 9) ≤ (l0.length : Int) then ((slices_Clone_int_int.f (l0.take ((mn (l0.length : Int) 9) : Int).toNat)).bind fun t1003 => (some t1003)) else (none)) else (none)) = some r := h
  clear h
  obtain ⟨ji2, hji2⟩ : ∃ j_ : Int, (mn (l0.length : Int) 9) = j_ := ⟨_, rfl⟩
  replace H : (if 0 ≤ (ji2) then (if (ji2) ≤ (l0.length : Int) then ((slices_Clone_int_int.f (l0.take ((ji2) : Int).toNat)).bind fun t1003 => (some t1003)) else (none)) else (none)) = some r := by first | (rw [hji2] at H; exact H) | (simp only [hji2] at H ⊢; exact H)
  (try (have hji2h : ji2 ≤ 9 := by (rw [← hji2]; unfold mn; (repeat' split) <;> omega)))
  (try (have hji2g : ji2 ≤ 64 := by omega))
  (try (have hji2l : 0 ≤ ji2 := by (rw [← hji2]; unfold mn; (repeat' split) <;> omega)))
  (try (have hji2m : 0 ≤ ji2 := by omega))
  have hji2_ : (if 9 < (l0.length : Int) then 9 else (l0.length : Int)) = ji2 := hji2
  by_cases c3 : 0 ≤ (ji2)
  · rw [if_pos c3] at H
    have c3b0 := eq_true c3
    have c3b1 : decide (0 ≤ (ji2)) = true := decide_eq_true c3
    clear c3
    by_cases c4 : (ji2) ≤ (l0.length : Int)
    · rw [if_pos c4] at H
      have c4b0 := eq_true c4
      have c4b1 : decide ((ji2) ≤ (l0.length : Int)) = true := decide_eq_true c4
      clear c4
      obtain ⟨y1001, hy1001⟩ : ∃ y_ : List Int, y_ = (l0.take ((ji2) : Int).toNat) := ⟨_, rfl⟩
      replace H : ((slices_Clone_int_int.f y1001).bind fun t1003 => (some t1003)) = some r := by first | (rw [hy1001]; with_reducible exact H) | (have H2_ := (Option.bind_some _ _).symm.trans H; rw [hy1001]; with_reducible exact H2_) | (have H2_ := (Option.bind_some _ _).symm.trans H; with_reducible exact H2_) | with_reducible exact H | (rw [hy1001]; exact H) | exact H
      have Ny1001 := Aside0.mk hy1001
      clear hy1001
      replace H := Option.bind_eq_some_iff.mp H
      obtain ⟨t1003, A50, H⟩ := H
      replace H : (some t1003) = some r := H
      have A5 := Aside0.mk A50
      clear A50
      obtain rfl := Option.some.inj H
      obtain ⟨i06, hi06, _, hsz6, _⟩ := info_parts info3
      obtain ⟨hcut6, hA6, hC6⟩ := print_take_of (P := Try.prog) (Value.int .i64) 0 23 3 .i64 Try.underlying23 hi06 hsz6 A0 c0 l0 (ji2) (of_decide_eq_true (by first | (with_reducible assumption) | assumption)) (of_decide_eq_true (by first | (with_reducible assumption) | assumption)) HC0.out
      (first | rw [← Ny1001.out] at hcut6 hA6 hC6 | (simp only [Int.reduceToNat] at hcut6 hA6 hC6; rw [← Ny1001.out] at hcut6 hA6 hC6))
      have HR1002 := Aside0.mk (Kd.C_of_reads (h1 := fun _ => rfl) (hA6 _ (Kd.reads_of_C HR0.out)))
      have HC1002 := Aside0.mk hC6
      clear hA6 hC6 hi06 hsz6
      go_enter Try.func19, Try.ntmps19
      go_wp2_with (first | ((with_reducible refine gate_callee (f := 29) rfl ?_); refine goesL_ (some 8) rfl rfl Try.func29 (by kernel_rfl) rfl #[.slice A0 y1001.length c0] rfl (by (try simp only [List.map_toArray, List.map_cons, List.map_nil]); first | done | rfl | (simp only [List.length_drop, List.length_take]; rfl)) ?_; (with_reducible refine (slices_Clone_int_int.calls _ _ y1001 t1003 _ ?side1 ?side2 A5.out).mono ?_); (case side1 => repeat (first | exact HR1002.out | (with_reducible refine Kd.C_alloc ?_ _) | (with_reducible refine Kd.C_drewN ?_ _) | (with_reducible refine Kd.C_drew ?_))); (case side2 => exact HC1002.out); rintro e w7 ⟨v1004, rfl, ho0, hb⟩; refine ⟨_, rfl, ?_⟩; have n0_ := Aside0.mk (Kd.R_lower ho0 (below_size (by repeat (first | (with_reducible first | exact HB.out | apply below_alloc | apply pw_below_drewN | apply below_drew1) | exact HB.out)))); have n1_ := Aside0.mk (below_step (by repeat (first | (with_reducible first | exact HB.out | apply below_alloc | apply pw_below_drewN | apply below_drew1) | exact HB.out)) hb); clear HB; have HO1005 := n0_; have HB := n1_; clear n0_ n1_; (try clear hb); (try clear hb2); (try clear hk); (try clear hi); (try clear ho0)))
      go_ret
      exact ⟨_, by first | rfl | (simp [errW_none, errW_some] <;> rfl) | (simp only [← hji2]; first | rfl | (simp [errW_none, errW_some] <;> rfl)) | (simp [*, errW_none, errW_some] <;> rfl), by (with_reducible repeat (first | apply Kd.R_alloc | apply Kd.R_drewN | apply Kd.R_drew)); exact HO1005.out, by repeat (first | (with_reducible first | exact HB.out | apply below_alloc | apply pw_below_drewN | apply below_drew1) | exact HB.out)⟩
    · rw [if_neg c4] at H
      exact absurd H (by simp)
  · rw [if_neg c3] at H
    exact absurd H (by simp)

end Go.Proofs.Ytfjafmgaahfhgaa.P
