/- A part of a proof that a law's Go function returns true for every input, laid by this session's program mp.py (which drives the kit's print). Conditions: as each theorem states them. -/
import Derived.RangeFuncNested
import Derived.RangeFuncBound
import Derived.RangeFuncCalls
import Derived.RangeFuncLeaves
import Derived.Shelf.Abstract
import Derived.Shelf.RegionOpen
import Derived.Shelf.AbstractIn
import Derived.Sort.QuietIn
import Derived.OwnWalkIn
import Derived.TacticsInMore
import Derived.LoopNIn
import Derived.LoopIn
import Derived.Stop.RegionWithIn
import Derived.StillTailTactics
import Derived.Laws.EntriesVeiled
import Derived.Maps.OwnIn
import Derived.ArgAppend
import Derived.Test.YtdnjbjcfbdclfaaCVoicesMiddle1
import Derived.Test.YtdnjbjcfbdclfaaCVoicesMiddle2
import Derived.Test.YtdnjbjcfbdclfaaCVoicesMiddle3
namespace Go.Proofs.Ytdnjbjcfbdclfaa.P
open Go.RowKit Go.Proofs.YtdnjbjcfbdclfaaW.PrintWords Go.Proofs.YtdnjbjcfbdclfaaW.PrintLast Go.Proofs.YtdnjbjcfbdclfaaW.PrintMore
attribute [local go_sem] max2_int min2_int max_two min_two max_three min_three max_four min_four   -- for this text's walks alone
set_option linter.unusedVariables false
set_option linter.unusedSimpArgs false

attribute [local go_sem] Oper.semAt_some
/-! voices.Middle: the walk -/
theorem mid_new (w : World) (n k : Int) (A : Option Addr) (m c : Nat) (t1 t2 t3 t4 t5 : TypeId) (q : Nat) (W5 : World)
    (h : (((((w.alloc (.cells #[.slice A m c] t1)).alloc (.cells #[.int .i64 n] t2)).drewN q).alloc (.cells #[.slice none 0 0, .int .i64 0] t3)).alloc (.cells #[.int .i64 n] t4)).alloc (.cells #[.int .i64 k] t5) = W5) :
    BoxAt W5 w.heap.size [.slice A m c] ∧ BoxAt W5 (w.heap.size + 1) [.int .i64 n] ∧ BoxAt W5 (w.heap.size + 2) [.slice none 0 0, .int .i64 0] ∧ BoxAt W5 (w.heap.size + 3) [.int .i64 n] ∧ BoxAt W5 (w.heap.size + 4) [.int .i64 k] ∧ W5.heap.size = w.heap.size + 5 ∧ Below w.heap.size w W5 := by
  subst h
  have a1 := BoxAt.new w [.slice A m c] t1
  have a2 := BoxAt.new (w.alloc (.cells #[.slice A m c] t1)) [.int .i64 n] t2
  have a3 := BoxAt.new (((w.alloc (.cells #[.slice A m c] t1)).alloc (.cells #[.int .i64 n] t2)).drewN q) [.slice none 0 0, .int .i64 0] t3
  have a4 := BoxAt.new ((((w.alloc (.cells #[.slice A m c] t1)).alloc (.cells #[.int .i64 n] t2)).drewN q).alloc (.cells #[.slice none 0 0, .int .i64 0] t3)) [.int .i64 n] t4
  have a5 := BoxAt.new (((((w.alloc (.cells #[.slice A m c] t1)).alloc (.cells #[.int .i64 n] t2)).drewN q).alloc (.cells #[.slice none 0 0, .int .i64 0] t3)).alloc (.cells #[.int .i64 n] t4)) [.int .i64 k] t5
  have e2 : (w.alloc (.cells #[.slice A m c] t1)).heap.size = w.heap.size + 1 := by simp
  have e3 : (((w.alloc (.cells #[.slice A m c] t1)).alloc (.cells #[.int .i64 n] t2)).drewN q).heap.size = w.heap.size + 2 := by show ((w.alloc (.cells #[.slice A m c] t1)).alloc (.cells #[.int .i64 n] t2)).heap.size = _; simp
  have e4 : ((((w.alloc (.cells #[.slice A m c] t1)).alloc (.cells #[.int .i64 n] t2)).drewN q).alloc (.cells #[.slice none 0 0, .int .i64 0] t3)).heap.size = w.heap.size + 3 := by rw [World.size_alloc, e3]
  have e5 : (((((w.alloc (.cells #[.slice A m c] t1)).alloc (.cells #[.int .i64 n] t2)).drewN q).alloc (.cells #[.slice none 0 0, .int .i64 0] t3)).alloc (.cells #[.int .i64 n] t4)).heap.size = w.heap.size + 4 := by rw [World.size_alloc, e4]
  rw [e2] at a2
  rw [e3] at a3
  rw [e4] at a4
  rw [e5] at a5
  refine ⟨((((a1.alloc _).drewN q).alloc _).alloc _).alloc _, (((a2.drewN q).alloc _).alloc _).alloc _, (a3.alloc _).alloc _, a4.alloc _, a5, by rw [World.size_alloc, e5], ?_⟩
  have b2 : Below w.heap.size w ((w.alloc (.cells #[.slice A m c] t1)).alloc (.cells #[.int .i64 n] t2)) := below_alloc (below_alloc (Below.refl _ _) _) _
  exact below_alloc (below_alloc (below_alloc (pw_below_drewN b2 q) _) _) _
theorem R_rebase {e base base' : Nat} {W : World} {ok : Nat → Prop} {v : Value} {xs : List Int} (h : Kd.R (Kd.int .i64) e W base ok v xs) (hb : ∀ k, v.ownBlock = some k → base' ≤ k) : Kd.R (Kd.int .i64) e W base' ok v xs := by
  have ho := Kd.own_of_R h
  refine Kd.R_of_own (h1 := fun _ => rfl) ?_ h.1
  obtain ⟨h1, h2⟩ := ho
  refine ⟨h1, ?_⟩
  rcases h2 with h2 | ⟨g, cap, cur, rfl, hg, hh, r⟩
  · exact .inl h2
  · exact .inr ⟨g, cap, cur, rfl, hb g rfl, hh, r⟩
theorem see_own {S base : Nat} {st : Option (List Int × Int)} {W W' : World} (h : SeeJ S base st W) (hh : ∀ i, (i = S ∨ ∃ v, W.cell? ⟨S, 0, none⟩ = some v ∧ v.ownBlock = some i) → W'.heap[i]? = W.heap[i]?) : SeeJ S base st W' := by
  have hS := hh S (.inl rfl)
  have hc : ∀ j, W'.cell? ⟨S, j, none⟩ = W.cell? ⟨S, j, none⟩ := fun j => by unfold World.cell?; simp only [hS]
  have hf : ∀ j, W'.frozen? ⟨S, j, none⟩ = W.frozen? ⟨S, j, none⟩ := fun j => by unfold World.frozen?; simp only [hS]
  obtain ⟨f0, f1, hst⟩ := h
  cases st with
  | none => exact ⟨(hf 0).trans f0, (hf 1).trans f1, (hc 0).trans hst.1, (hc 1).trans hst.2⟩
  | some p =>
    obtain ⟨v, c⟩ := p
    obtain ⟨ad, cap, c0, c1, hR⟩ := hst
    have h2 := Kd.R_move (w1 := W') (Kd.R_tight rfl hR) (fun i hi => hh i (.inr ⟨_, c0, hi.symm⟩))
    exact ⟨(hf 0).trans f0, (hf 1).trans f1, ad, cap, (hc 0).trans c0, (hc 1).trans c1, Kd.R_mono h2 (fun i hi => hR.1 i hi.symm)⟩
theorem see_typed {S base : Nat} {st : Option (List Int × Int)} {W : World} (h : SeeJ S base st W) {i : Nat} (hi : ∃ v, W.cell? ⟨S, 0, none⟩ = some v ∧ v.ownBlock = some i) : ∃ o, W.heap[i]? = some o ∧ o.isCells = true := by
  obtain ⟨v, hv, hi⟩ := hi
  obtain ⟨_, _, hst⟩ := h
  cases st with
  | none => rw [hst.1] at hv; injection hv with hv; subst hv; cases hi
  | some p =>
    obtain ⟨u, c⟩ := p
    obtain ⟨ad, cap, c0, c1, hR⟩ := hst
    rw [c0] at hv; injection hv with hv; subst hv
    obtain ⟨cells, hc⟩ := own_typed (Kd.own_of_R hR) i hi
    exact ⟨_, hc, rfl⟩
theorem mid_put {B bb l i : Nat} {W : World} {o : Obj} (hb : bb ≠ l) (h : MidP B bb (W.putObj l o) i) : MidP B bb W i := by
  rcases h with h | ⟨v, hv, hi⟩
  · exact .inl h
  · refine .inr ⟨v, ?_, hi⟩
    have e : (W.putObj l o).heap[bb]? = W.heap[bb]? := World.putObj_heap_other (by omega)
    unfold World.cell? at hv ⊢
    simp only [e] at hv; exact hv
theorem mid_own {n : Int} {ls : List (List Int)} {B bb : Nat} {W5 : World} (hbb : bb < B) : OwnFrom B (MidI n ls B bb W5) := by
  rintro s A C row ⟨h1, h2, h3⟩ hg hr
  refine ⟨see_own h1 (fun i hi => ?_), h2.trans (Fr.grown hg (fun i hi => by omega) (fun i hi hp => by have := (hr i hi).1; omega)), Nat.le_trans h3 hg.size⟩
  rcases hi with rfl | hi
  · exact hg.block _ (by omega) (fun e => by have := (hr _ e.symm).1; omega)
  · obtain ⟨o, ho, hc⟩ := see_typed h1 hi
    refine hg.block i (Array.getElem?_eq_some_iff.1 ho).1 (fun e => ?_)
    obtain ⟨_, o2, ho2, hc2⟩ := hr i e.symm
    rw [ho] at ho2; injection ho2 with ho2; subst ho2; rw [hc] at hc2; cases hc2
theorem mid_st {n : Int} {ls : List (List Int)} {B bb : Nat} {W5 : World} (hbb : bb < B) {s : List (List Nat)} {A C : World} (h : MidI n ls B bb W5 s A) (hst : AlSteps (MidP B bb) A C) : MidI n ls B bb W5 s C :=
  ⟨see_own h.1 (fun i hi => hst.1.block i (hi.elim (fun e => .inl (by omega)) (fun e => .inr e))), h.2.1.trans (hst.1.mono (fun i hi => .inl hi.1)), Nat.le_trans h.2.2 hst.1.size⟩
theorem enc_own {B bb : Nat} (hbb : bb < B) (x : List Nat) (vals : Array Value) : OwnFrom B (fun (_ : Unit) W => B ≤ W.heap.size ∧ AlEnc (MidP B bb) x W vals) := by
  rintro s A C row ⟨hs, ad, c, b, rfl, hR, ht⟩ hg hr
  refine ⟨Nat.le_trans hs hg.size, ad, c, b, rfl, ?_, ht⟩
  have h2 := Kd.R_move (w1 := C) (Kd.R_tight rfl hR) (fun i hi => by
    obtain ⟨cells, hc⟩ := own_typed (Kd.own_of_R hR) i hi.symm
    refine hg.block i (Array.getElem?_eq_some_iff.1 hc).1 (fun e => ?_)
    obtain ⟨_, o2, ho2, hc2⟩ := hr i e.symm
    rw [hc] at ho2; injection ho2 with ho2; subst ho2; cases hc2)
  refine Kd.R_mono h2 (fun i hi hp => hR.1 i hi.symm ?_)
  rcases hp with hp | ⟨v, hv, hi2⟩
  · exact .inl hp
  · refine .inr ⟨v, ?_, hi2⟩
    have e : C.heap[bb]? = A.heap[bb]? := hg.block _ (by omega) (fun e => by have := (hr _ e.symm).1; omega)
    unfold World.cell? at hv ⊢
    simp only [e] at hv; exact hv
theorem alN_ne {n : Nat} : ∀ (r f : Nat) (cur : List Nat), f < n → alN n r f cur ≠ []
  | 0, f, cur, _ => by rw [alN]; exact List.cons_ne_nil _ _
  | r + 1, f, cur, hf => fun e => by
    rw [alN, List.flatMap_eq_nil_iff] at e
    exact alN_ne r (f + 0) (cur ++ [f + 0]) (by omega) (e 0 (List.mem_range.2 (by omega)))
theorem midF_some {n : Int} {ls : List (List Int)} (L : List (List Nat)) (hL : L ≠ []) : ∃ p, midF n ls L = some p := by
  have hs : ∀ (st : Option (List Int × Int)) (v : List Int) (c : Int), ∃ p, seeS st v c = some p := by
    intro st v c
    cases st with
    | none => exact ⟨_, rfl⟩
    | some p => obtain ⟨w, d⟩ := p; simp only [seeS]; split <;> exact ⟨_, rfl⟩
  have key : ∀ (L : List (List Nat)) (st : Option (List Int × Int)), (L ≠ [] ∨ st ≠ none) → ∃ p, L.foldl (fun st v => seeS st (nums v) (costL n (nums v) ls)) st = some p := by
    intro L
    induction L with
    | nil => intro st h; cases st with
      | none => simp at h
      | some p => exact ⟨p, rfl⟩
    | cons v L ih =>
      intro st _
      rw [List.foldl_cons]
      obtain ⟨p, hp⟩ := hs st (nums v) (costL n (nums v) ls)
      exact ih _ (.inr (by rw [hp]; simp))
  exact key L none (.inl hL)
theorem mid_step {n : Int} {ls : List (List Int)} {B bb : Nat} {W5 W wr W' : World} {pre : List (List Nat)} {x : List Nat} {y : Value} {e : Ending} (hbb : bb < B) (hI : MidI n ls B bb W5 pre W) (hb : Below W.heap.size W wr) (hs : SeePostY bb B (seeS (midF n ls pre) (nums x) (costL n (nums x) ls)) y wr e W') :
    KeepsOthers W W' ∧ AlKp (MidP B bb) (fun i => i = bb) #[y] W W' ∧ MidI n ls B bb W5 (pre ++ [x]) W' := by
  obtain ⟨⟨_, hj, hf⟩, hy⟩ := hs
  obtain ⟨u, hu, _⟩ := mid_cell hI
  have hlt : bb < W.heap.size := World.block_lt_of_cell? W _ hu
  have hu2 : wr.cell? ⟨bb, 0, none⟩ = some u := (hb.cell hlt).trans hu
  have hsz : W.heap.size ≤ W'.heap.size := Nat.le_trans hb.size hf.size
  have hcell : ∀ o, W.heap[bb]? = some o → o.isCells = true := fun o ho => isCells_of hu ho
  have hblk : ∀ i, i < W.heap.size → i ≠ bb → W'.heap[i]? = W.heap[i]? := fun i h1 h2 => (hf.block i ⟨h2, by have := hb.size; omega⟩).trans (hb.block i h1)
  refine ⟨⟨hsz, fun i o ho hc => ?_⟩, ⟨⟨hsz, fun i o hx ho hc => (hblk i (Array.getElem?_eq_some_iff.1 ho).1 hx).trans ho⟩, fun i hi => ?_⟩, ?_, ?_, Nat.le_trans hI.2.2 hsz⟩
  · refine (hblk i (Array.getElem?_eq_some_iff.1 ho).1 (fun e => ?_)).trans ho
    subst e
    rw [hcell o ho] at hc; cases hc
  · rcases hi with hi | ⟨v, hv, hi⟩
    · exact .inl (.inl hi)
    · rcases hy with hy | hy
      · rw [hy, hu2] at hv; injection hv with hv; subst hv; exact .inl (.inr ⟨_, hu, hi⟩)
      · rw [hy] at hv; injection hv with hv; subst hv; exact .inr (.inr ⟨_, by simp, hi⟩)
  · rw [midF_snoc]; exact hj
  · exact hI.2.1.trans ⟨by rw [hf.os, hb.os], by rw [hf.tape, hb.tape], by rw [hf.output, hb.output], hsz, fun i hi => hblk i (by have := hI.2.2; omega) hi.2⟩
set_option maxHeartbeats 8000000 in
set_option maxRecDepth 100000 in
theorem middle_ok (n k : Nat) (A : Option Addr) (c : Nat) (ls : List (List Int)) (w : World) (h : VcsN (n : Int) (k : Int) ls) (hr : Kd.C (Kd.slice 3 (Kd.int .i64)) w A ls.length ls) (hc : ls.length ≤ c) :
    CallsIn Fence.wide 3 Try.prog 29 #[.int .i64 (n : Int), .int .i64 (k : Int), .slice A ls.length c] w fun e w' => ∃ ad cap v d, midF (n : Int) ls (alN n k 0 []) = some (v, d) ∧ e = .returned (.tuple #[.slice (some ad) v.length cap, .int .i64 0]) ∧ Kd.R (Kd.int .i64) 3 w' w.heap.size (fun _ => True) (.slice (some ad) v.length cap) v ∧ Below w.heap.size w w' := by
  obtain ⟨h1, h2, h3, h4, h5, h6, h7, h8, h9⟩ := h
  obtain ⟨kv, hkv⟩ := Ev.rounds (g := fun q => voices_circle_valid.f q (n : Int) ls) (validV_ev (n : Int) ls (by omega))
  have hd : decide (2 ≤ (n : Int) ∧ (n : Int) ≤ 16 ∧ ∀ v ∈ ls, VoiN (n : Int) v ∧ v.length = (ls.getD 0 []).length) = true := decide_eq_true ⟨h7, h8, h9⟩
  rw [hd] at hkv
  obtain ⟨ad0, A0, c0, rfl, hx0, hl0, hi0⟩ := at_L1 hr 0 (by omega) (by omega)
  have hR0 : rd_L1 ls 0 = ls.getD 0 [] := rfl
  rw [show ((0 : Int)).toNat = 0 from rfl, Addr.add_zero'] at hx0
  have hk0 : ((rd_L1 ls 0).length : Int) = (k : Int) := h6
  have HV := Aside0.mk (fun (W : World) (hb : Below w.heap.size w W) => voices_circle_valid.calls kv (n : Int) (some ad0) c ls true W (Kd.C_below hr hb) hc hkv)
  have HR := Aside0.mk hr
  have HC := Aside0.mk hc
  have HH := Aside0.mk (And.intro h6 h9)
  have q1 : decide ((12 : Int) < (n : Int)) = false := decide_eq_false (by omega)
  have q2 : decide ((k : Int) < 1) = false := decide_eq_false (by omega)
  have q3 : decide ((3 : Int) < (k : Int)) = false := decide_eq_false (by omega)
  have q4 : decide ((ls.length : Int) < 1) = false := decide_eq_false (by omega)
  have q5 : decide ((8 : Int) < (ls.length : Int)) = false := decide_eq_false (by omega)
  obtain ⟨L0, hL0⟩ : ∃ L0, (rd_L1 ls 0).length = L0 := ⟨_, rfl⟩
  obtain ⟨M, hM⟩ : ∃ M, ls.length = M := ⟨_, rfl⟩
  rw [hL0] at hx0 hk0
  have q6 : ((L0 : Int) != (k : Int)) = false := bne_eq_false_iff_eq.2 hk0
  rw [hM] at q4 q5 HV HR HC ⊢
  have HMM := Aside0.mk hM
  have HBD := Aside0.mk (show 2 ≤ n ∧ n ≤ 12 ∧ 1 ≤ k ∧ k ≤ 3 ∧ 1 ≤ M ∧ M ≤ 8 by omega)
  have hM0 : (0 : Int) < (M : Int) := by omega
  have hx1 : ∀ (W : World), Below w.heap.size w W → W.cell? ad0 = some (.slice A0 L0 c0) := fun W hb => (hb.cell (World.block_lt_of_cell? w _ hx0)).trans hx0
  have HX1 := Aside0.mk hx1
  clear h1 h2 h3 h4 h5 h6 h7 h8 h9 hkv hd hl0 hi0 hR0 hr hc hL0 hM hx1
  refine callsIn_of_wp_marks Try.func29 rfl trivial ?_ rfl
  simp only [Try.ntmps29, List.size_toArray, List.length_cons, List.length_nil, Nat.reduceAdd, Nat.reduceSub, Array.replicate_succ, Array.replicate_zero, List.push_toArray, List.append_toArray, List.nil_append, List.cons_append]
  obtain ⟨W2, hW2⟩ : ∃ W2, (w.alloc (.cells #[.slice (some ad0) M c] 43)).alloc (.cells #[.int .i64 (n : Int)] 49) = W2 := ⟨_, rfl⟩
  have hb2 : Below w.heap.size w W2 := by rw [← hW2]; exact below_alloc (below_alloc (Below.refl _ _) _) _
  have hx2 := HX1.out W2 hb2
  have HVC := Aside0.mk (HV.out W2 hb2)
  rw [← hW2] at hx2 HVC
  have HX2 := Aside0.mk hx0
  clear hx0 hW2 hb2
  gi_wp2
  refine ⟨trivial, (callsIn_wide.2 HVC.out).mono ?_⟩
  rintro e w2 ⟨rfl, ⟨q, rfl⟩⟩
  have hmf : ∀ (fn : Fn) (first cap : Array Value) (w : World), (Instr.makeFunc fn first cap).run Try.prog w = .ok (.func fn first cap) w := fun _ _ _ _ => rfl
  gi_wp2
  refine ⟨trivial, (callsIn_wide.2 (all_calls (n : Int) (k : Int) _)).mono ?_⟩
  rintro e W5 ⟨rfl, hw5⟩
  gi_wp2
  rw [← hw5]
  obtain ⟨B0, B1, B2, B3, B4, hz5, HB5⟩ := mid_new w (n : Int) (k : Int) (some ad0) M c _ _ _ _ _ q W5 hw5.symm
  have HBX := Aside0.mk (And.intro B0 (And.intro B1 (And.intro B2 (And.intro B3 B4))))
  have HZ5 := Aside0.mk hz5
  have HB5 := Aside0.mk HB5
  have hbb : w.heap.size + 1 + 1 < W5.heap.size := by omega
  have hbd := HBD.out
  have hj0 : MidI (n : Int) ls W5.heap.size (w.heap.size + 1 + 1) W5 [] W5 := ⟨⟨B2.frozen 0, B2.frozen 1, B2.cell 0 _ rfl, B2.cell 1 _ rfl⟩, Fr.refl _ _, Nat.le_refl _⟩
  clear hw5 HVC HV B0 B1 B2 HX1 HX2
  refine range_fg rfl (by omega) (gf := 57) (fs := #[]) (lb := #[.pointer (some ⟨w.heap.size + 1 + 1 + 1 + 1, 0, none⟩), .pointer (some ⟨w.heap.size + 1 + 1 + 1, 0, none⟩)]) rfl trivial (enters_of Try.func57 (by kernel_rfl) rfl)
    (all_seq (P := MidP W5.heap.size (w.heap.size + 1 + 1)) (XB := fun i => i = w.heap.size + 1 + 1) (k := k) (n := n) W5 (B4.cell 0 _ rfl) (B3.cell 0 _ rfl) (fun i e => by omega) (by omega) (by omega) (by omega))
    (fun x W vals hE => by obtain ⟨ad, c, b, rfl, _⟩ := hE; rfl)
    (fun A B h => h.2)
    (fun h k => ⟨h.1.trans k.1, fun i hi => (k.2 i hi).elim (fun hb => h.2 i hb) (fun hb => hb.elim (fun hb => .inr (.inl (Nat.le_trans h.1.1 hb))) (fun hb => .inr (.inr hb)))⟩)
    (fun v W l o o' hl ho hc => ⟨KpC.putObj W ho hc, fun i hi => .inl (mid_put (by omega) hi)⟩)
    (MidI (n : Int) ls W5.heap.size (w.heap.size + 1 + 1) W5) (mid_own hbb) (fun s A B h hst => mid_st hbb h hst) (fun s A h => mid_pi hbb h) hj0
    (fun x vals a' W => (W5.heap.size ≤ W.heap.size ∧ AlEnc (MidP W5.heap.size (w.heap.size + 1 + 1)) x W vals) ∧ ∃ XX, vals = #[XX] ∧ a' = { tmps := #[Value.int .i64 ↑n, Value.int .i64 ↑k, Value.slice (some ad0) M c, undef, undef, Value.pointer (some ⟨w.heap.size, 0, none⟩), Value.slice none 0 0, Value.int .i64 0, Value.pointer (some ⟨w.heap.size + 1, 0, none⟩), Value.pointer (some ⟨w.heap.size + 1 + 1, 0, none⟩), XX, undef, undef, undef, undef, undef, Value.int .i64 ↑n, Value.int .i64 ↑n, Value.bool false, Value.bool false, Value.int .i64 ↑k, Value.bool false, Value.bool false, Value.bool false, Value.int .i64 ↑k, Value.bool false, Value.bool false, Value.bool false, Value.slice (some ad0) M c, Value.int .i64 ↑M, Value.bool false, Value.bool false, Value.bool false, Value.slice (some ad0) M c, Value.int .i64 ↑M, Value.bool false, Value.bool false, Value.bool false, Value.slice (some ad0) M c, Value.pointer (some ad0), Value.slice A0 L0 c0, Value.int .i64 ↑k, Value.int .i64 ↑k, Value.bool false, Value.bool false, Value.bool false, Value.int .i64 ↑n, Value.slice (some ad0) M c, Value.bool true, Value.bool false, Value.bool false, Value.int .i64 ↑n, Value.int .i64 ↑k, Value.func (.func 57) #[] #[Value.pointer (some ⟨w.heap.size + 1 + 1 + 1 + 1, 0, none⟩), Value.pointer (some ⟨w.heap.size + 1 + 1 + 1, 0, none⟩)], XX, undef, undef, undef, undef, undef, undef, undef, undef, undef, undef, undef, undef, undef, undef, undef, undef, undef, undef, undef, undef, undef, undef], defers := [] })
    (fun x v a' s A B row h hg hr => ⟨enc_own hbb x v () A B row h.1 hg hr, h.2⟩) ?assign ?body ?done
  case assign =>
    rintro l pre x vals W K hI ⟨ad, c2, b, rfl, hR, ht⟩ hK
    have HK := Aside0.mk hK
    have HI := Aside0.mk hI
    have HE := Aside0.mk (show AlEnc (MidP W5.heap.size (w.heap.size + 1 + 1)) x W #[.slice (some ad) (nums x).length c2] from ⟨ad, c2, b, rfl, hR, ht⟩)
    clear hK hI hR ht
    gi_wp2
    exact HK.out _ _ (KeepsOthers.refl _) ⟨KpC.refl _ _, fun i hi => .inl hi⟩ HI.out ⟨⟨HI.out.2.2, HE.out⟩, _, rfl, rfl⟩
  case body =>
    rintro l pre x rest vals a' W hlw hloop hx hI ⟨⟨hBW, ad, c2, b, hv1, hR, ht⟩, XX, hv2, rfl⟩
    rw [hv1] at hv2
    obtain rfl : Value.slice (some ad) (nums x).length c2 = XX := by injection hv2 with hv2; injection hv2
    subst hv1
    obtain ⟨B0, B1, -⟩ := HBX.out
    have b0 : W.cell? ⟨w.heap.size, 0, none⟩ = some (.slice (some ad0) M c) := (hI.2.1.cell ⟨by omega, by omega⟩ 0).trans (B0.cell 0 _ rfl)
    have b1 : W.cell? ⟨w.heap.size + 1, 0, none⟩ = some (.int .i64 (n : Int)) := (hI.2.1.cell ⟨by omega, by omega⟩ 0).trans (B1.cell 0 _ rfl)
    obtain ⟨hxk, hxn⟩ := alN_mem (n := n) (k := k) k 0 [] (Nat.zero_le _) (by simp) (by simp) x (by rw [hx]; simp)
    have hbw : Below w.heap.size w W := HB5.out.trans ⟨hI.2.1.os, hI.2.1.tape, hI.2.1.output, hI.2.1.size, fun i hi => hI.2.1.block i ⟨by omega, by omega⟩⟩
    have HI := Aside0.mk hI
    have HRX := Aside0.mk hR
    have HRD := Aside0.mk (Kd.R_reads' hR)
    have HBW := Aside0.mk hbw
    have HX := Aside0.mk (And.intro hxk hxn)
    have hnb : ∀ i, ¬ MidP W5.heap.size (w.heap.size + 1 + 1) W i → i ≠ w.heap.size + 1 + 1 := fun i hi e => hi (.inl (by omega))
    have HNB := Aside0.mk hnb
    have HPRE : Aside0 (∀ v ∈ pre, v.length = k) := ⟨fun v hv => (alN_mem (n := n) (k := k) k 0 [] (Nat.zero_le _) (by simp) (by simp) v (by rw [hx]; simp [hv])).1⟩
    have HLX := Aside0.mk (show (nums x).length = k by rw [nums_length]; exact hxk)
    have B00 := Aside0.mk b0
    have B11 := Aside0.mk b1
    have hbl := World.block_lt_of_cell? W _ b1
    obtain ⟨Lx, hLx⟩ : ∃ Lx, (nums x).length = Lx := ⟨_, rfl⟩
    rw [hLx]
    have HLE := Aside0.mk hLx
    clear hv2 hR hI hx hloop hlw hBW hxk hxn hbw hnb ht hj0 B0 B1 B3 B4 hLx
    gi_wp2
    gi_loopw [11, 57] (fun t p wr => ∃ i : Nat, p = .int .i64 (i : Int) ∧ i ≤ M ∧ t = .int .i64 (costL (n : Int) (nums x) (ls.take i)) ∧ Aside0 (Below W.heap.size W wr)) (fun _ p _ => M - (intO p).toNat)
    case atStart => exact ⟨0, rfl, by omega, rfl, ⟨Below.refl _ _⟩⟩
    case round =>
      obtain ⟨i, rfl, hiM, rfl, HB⟩ := hrel
      rcases Nat.lt_or_eq_of_le hiM with hlt | rfl
      · have hz : (i : Int) < (M : Int) := by omega
        have HLT := Aside0.mk hlt
        obtain ⟨ad2, Ai, ci, e2, hxi, hli, hci⟩ := at_L1 (Kd.C_below HR.out (HBW.out.trans (HB.out.mono HBW.out.size))) (i : Int) (by omega) (by omega)
        obtain rfl : ad0 = ad2 := by injection e2
        have hli9 : i < ls.length := by have := HMM.out; omega
        have hyv : rd_L1 ls (i : Int) = ls[i] := by
          show ls.getD ((i : Int)).toNat [] = _
          rw [List.getD_eq_getElem?_getD, Int.toNat_natCast, List.getElem?_eq_getElem hli9]; rfl
        have hym := HH.out.2 _ (List.getElem_mem hli9)
        have htk : ls.take (i + 1) = ls.take i ++ [rd_L1 ls (i : Int)] := by rw [hyv]; exact List.take_succ_eq_append_getElem hli9
        rw [← hyv] at hym
        have hbx := HBD.out
        have htwo : TwoN (n : Int) (nums x) (rd_L1 ls (i : Int)) := ⟨⟨by omega, by omega, by rw [HLX.out]; omega, by rw [HLX.out]; omega, fun z hz => by
          obtain ⟨z, hz2, rfl⟩ := List.mem_map.1 hz
          have := HX.out.2 z hz2
          exact ⟨Int.natCast_nonneg _, by show (z : Int) < (n : Int); omega⟩⟩, hym.1, by rw [HLX.out]; have := HH.out.1; have := hym.2; omega⟩
        have HCALL := Aside0.mk (best_two htwo (Kd.C_below HRD.out.2.2 HB.out) HRD.out.2.1 hci hli)
        rw [HLE.out] at HCALL
        obtain ⟨ct, hct⟩ : ∃ ct, (bestV (n : Int) (nums x) (rd_L1 ls (i : Int))).2 = ct := ⟨_, rfl⟩
        have HSUM : Aside0 (costL (n : Int) (nums x) (ls.take (i + 1)) = wrap64 (costL (n : Int) (nums x) (ls.take i) + ct)) := ⟨by rw [htk, costL_snoc, hct]⟩
        rw [hct] at HCALL
        obtain ⟨Ly, hLy⟩ : ∃ Ly, (rd_L1 ls (i : Int)).length = Ly := ⟨_, rfl⟩
        rw [hLy] at HCALL hxi
        rw [Int.toNat_natCast] at hxi
        have b1' : wr.cell? ⟨w.heap.size + 1, 0, none⟩ = some (.int .i64 (n : Int)) := (HB.out.cell hbl).trans b1
        obtain ⟨sm, hsm⟩ : ∃ sm, costL (n : Int) (nums x) (ls.take i) = sm := ⟨_, rfl⟩
        rw [hsm] at HSUM ⊢
        clear hiM hlt htk hym hyv hli9 hbx htwo hci hli hct hLy b0 b1 hsm e2
        gi_wp2
        refine ⟨trivial, (callsIn_wide.2 HCALL.out).mono ?_⟩
        rintro e w4 ⟨A4, c4, rfl, _, _, hb4⟩
        have HB4 := Aside0.mk (HB.out.trans (hb4.mono HB.out.size))
        have hii : wrap64 ((i : Int) + 1) = (i : Int) + 1 := wrap_id (by omega) (by have := HLT.out; have := HBD.out; omega)
        clear hb4
        gi_wp2
        go_roundw
        case rel => exact ⟨i + 1, by (try rw [hii]); go_num, HLT.out, by rw [HSUM.out], HB4⟩
        case measure => exact intO_less (by go_num) HLT.out
      · have hall : ls.take i = ls := List.take_of_length_le (by have := HMM.out; omega)
        rw [hall]
        have hsee := see_callsY (S := w.heap.size + 1 + 1) (base := W5.heap.size) (st := midF (n : Int) ls pre) (v := nums x) (c := costL (n : Int) (nums x) ls) (ad := ad) (cap := c2) (W := wr) (see_own HI.out.1 (fun j hj => HB.out.block j ?lt)) (Kd.R_below (Kd.R_mono (R_rebase HRX.out (fun j hj => Nat.le_of_not_lt (fun h => HRX.out.1 j hj (.inl h)))) (fun j hj => HNB.out j hj)) HB.out) (fun w0 d h => ?len) (by have := HLX.out; have := HBD.out; omega)
        case lt =>
          obtain ⟨u, hu, hul⟩ := mid_cell HI.out
          rcases hj with rfl | ⟨v, hv, hj⟩
          · exact World.block_lt_of_cell? W _ hu
          · rw [hu] at hv; injection hv with hv; subst hv; exact hul j hj
        case len => rw [nums_length, HX.out.1]; exact (midF_len pre HPRE.out w0 d h).symm
        rw [HLE.out] at hsee
        have HSEE := Aside0.mk hsee
        obtain ⟨sm, hsm⟩ : ∃ sm, costL (n : Int) (nums x) ls = sm := ⟨_, rfl⟩
        rw [hsm] at HSEE ⊢
        clear hsee hall b0 b1
        gi_wp2
        refine ⟨trivial, (callsIn_wide.2 HSEE.out).mono ?_⟩
        rintro e w5 hs
        rw [← hsm] at hs
        have hst := mid_step hbb HI.out HB.out hs
        obtain ⟨⟨⟨u, rfl⟩, _⟩, _⟩ := hs
        gi_wp2
        exact hst
  case done =>
    rintro D W hD hI hK
    obtain ⟨⟨f0, f1, hst⟩, hf, hsz⟩ := hI
    obtain ⟨p, hp⟩ : ∃ p, midF (n : Int) ls (alN n k 0 []) = some p := midF_some _ (alN_ne k 0 [] (by omega))
    obtain ⟨v, d⟩ := p
    rw [hp] at hst
    obtain ⟨ad, cap, q0, q1', hRv⟩ := hst
    have HRV := Aside0.mk hRv
    have HP := Aside0.mk hp
    have HF := Aside0.mk hf
    have HK := Aside0.mk hK
    clear hK hp hf hRv hj0 B3 B4
    gi_wp2
    refine ⟨by simp, .inl ⟨_, _, rfl, run_takeDeferred HK.out, ?_⟩⟩
    have hgp := grownBy_putObj' W D (.deferred none)
    have hfw : Below w.heap.size w W := HB5.out.trans ⟨HF.out.os, HF.out.tape, HF.out.output, HF.out.size, fun i hi => HF.out.block i ⟨by omega, by omega⟩⟩
    refine ⟨_, results_tmp2 rfl _ _ _, ad, cap, v, d, HP.out, rfl, ?_, ?_⟩
    · have h2 := Kd.R_lower (Kd.R_move (w1 := W.putObj D (.deferred none)) (Kd.R_tight rfl HRV.out) (fun i hi => World.putObj_heap_other (fun e => ?ne))) (show w.heap.size ≤ W5.heap.size by omega)
      case ne =>
        obtain ⟨cells, hcl⟩ := own_typed (Kd.own_of_R HRV.out) i hi.symm
        rw [e, HK.out] at hcl
        cases hcl
      exact Kd.R_mono h2 (fun _ _ => trivial)
    · exact hfw.grown hgp hfw.size (fun k e => by cases e; omega)

end Go.Proofs.Ytdnjbjcfbdclfaa.P
namespace Go.Proofs.Ytdnjbjcfbdclfaa.P
open Go.RowKit Go.Proofs.YtdnjbjcfbdclfaaW.PrintWords Go.Proofs.YtdnjbjcfbdclfaaW.PrintLast Go.Proofs.YtdnjbjcfbdclfaaW.PrintMore
attribute [local go_sem] max2_int min2_int max_two min_two max_three min_three max_four min_four   -- for this text's walks alone
set_option linter.unusedVariables false
set_option linter.unusedSimpArgs false

attribute [local go_sem] Oper.semAt_some
/-! voices.Middle: its contract -/
def voices_Middle.f (n k : Int) (ls : List (List Int)) : Option (List Int × Int) := if VcsN n k ls then some (((midF n ls (alN n.toNat k.toNat 0 [])).getD ([], 0)).1, 0) else some ([], 2)
set_option maxHeartbeats 8000000 in
set_option maxRecDepth 100000 in
theorem middle_no (n k : Int) (A : Option Addr) (c : Nat) (ls : List (List Int)) (w : World) (h : ¬ VcsN n k ls) (hr : Kd.C (Kd.slice 3 (Kd.int .i64)) w A ls.length ls) (hc : ls.length ≤ c) :
    Calls Try.prog 29 #[.int .i64 n, .int .i64 k, .slice A ls.length c] w fun e w' => e = .returned (.tuple #[.slice none 0 0, .int .i64 2]) ∧ Below w.heap.size w w' := by
  have HR := Aside0.mk hr
  have HN := Aside0.mk h
  have HC := Aside0.mk hc
  clear h hr hc
  by_cases c1 : 12 < n
  · have q1 : decide ((12 : Int) < n) = true := decide_eq_true c1
    clear c1
    go_enter Try.func29, Try.ntmps29
    go_wp2
    go_ret2
    exact ⟨rfl, below_alloc (below_alloc (Below.refl _ _) _) _⟩
  have q1 : decide ((12 : Int) < n) = false := decide_eq_false c1
  by_cases c2 : k < 1
  · have q2 : decide (k < 1) = true := decide_eq_true c2
    clear c1 c2
    go_enter Try.func29, Try.ntmps29
    go_wp2
    go_ret2
    exact ⟨rfl, below_alloc (below_alloc (Below.refl _ _) _) _⟩
  have q2 : decide (k < 1) = false := decide_eq_false c2
  by_cases c3 : 3 < k
  · have q3 : decide (3 < k) = true := decide_eq_true c3
    clear c1 c2 c3
    go_enter Try.func29, Try.ntmps29
    go_wp2
    go_ret2
    exact ⟨rfl, below_alloc (below_alloc (Below.refl _ _) _) _⟩
  have q3 : decide (3 < k) = false := decide_eq_false c3
  obtain ⟨M, hM⟩ : ∃ M, ls.length = M := ⟨_, rfl⟩
  rw [hM] at HR HC ⊢
  have HMM := Aside0.mk hM
  by_cases c4 : (M : Int) < 1
  · have q4 : decide ((M : Int) < 1) = true := decide_eq_true c4
    clear c1 c2 c3 c4 hM
    go_enter Try.func29, Try.ntmps29
    go_wp2
    go_ret2
    exact ⟨rfl, below_alloc (below_alloc (Below.refl _ _) _) _⟩
  have q4 : decide ((M : Int) < 1) = false := decide_eq_false c4
  by_cases c5 : 8 < (M : Int)
  · have q5 : decide (8 < (M : Int)) = true := decide_eq_true c5
    clear c1 c2 c3 c4 c5 hM
    go_enter Try.func29, Try.ntmps29
    go_wp2
    go_ret2
    exact ⟨rfl, below_alloc (below_alloc (Below.refl _ _) _) _⟩
  have q5 : decide (8 < (M : Int)) = false := decide_eq_false c5
  have hM0 : (0 : Int) < (M : Int) := by omega
  obtain ⟨ad0, A0, c0, rfl, hx0, hl0, hi0⟩ := at_L1 HR.out 0 (by omega) (by omega)
  have hR0 : rd_L1 ls 0 = ls.getD 0 [] := rfl
  rw [show ((0 : Int)).toNat = 0 from rfl, Addr.add_zero'] at hx0
  obtain ⟨L0, hL0⟩ : ∃ L0, (rd_L1 ls 0).length = L0 := ⟨_, rfl⟩
  rw [hL0] at hx0
  have hb2 : ∀ t1 t2, Below w.heap.size w ((w.alloc (.cells #[.slice (some ad0) M c] t1)).alloc (.cells #[.int .i64 n] t2)) := fun t1 t2 => below_alloc (below_alloc (Below.refl _ _) _) _
  have hx2 := ((hb2 43 49).cell (World.block_lt_of_cell? w _ hx0)).trans hx0
  by_cases c6 : (L0 : Int) = k
  · have q6 : ((L0 : Int) != k) = false := bne_eq_false_iff_eq.2 c6
    obtain ⟨kv, hkv⟩ := Ev.rounds (g := fun q => voices_circle_valid.f q n ls) (validV_ev n ls (by omega))
    have hd : decide (2 ≤ n ∧ n ≤ 16 ∧ ∀ v ∈ ls, VoiN n v ∧ v.length = (ls.getD 0 []).length) = false := decide_eq_false (fun h => HN.out ⟨by omega, by omega, by omega, by omega, by omega, by rw [← hR0, hL0]; exact c6, h⟩)
    rw [hd] at hkv
    have hcv := voices_circle_valid.calls kv n (some ad0) c ls false _ (Kd.C_below (hM ▸ HR.out) (hb2 43 49)) (hM ▸ HC.out) hkv
    rw [hM] at hcv
    have HCV := Aside0.mk hcv
    have HX0 := Aside0.mk hx0
    subst c6
    clear c1 c2 c3 c4 c5 hM hkv hd hcv hl0 hi0 hR0 hL0 hx0
    go_enter Try.func29, Try.ntmps29
    go_wp2_with fail
    refine HCV.out.mono ?_
    rintro e w2 ⟨rfl, ⟨q, rfl⟩⟩
    go_wp2
    go_ret2
    exact ⟨rfl, pw_below_drewN (below_alloc (below_alloc (Below.refl _ _) _) _) q⟩
  · have q6 : ((L0 : Int) != k) = true := bne_iff_ne.2 c6
    have HX0 := Aside0.mk hx0
    clear c1 c2 c3 c4 c5 c6 hM hl0 hi0 hR0 hL0 hx0
    go_enter Try.func29, Try.ntmps29
    go_wp2
    go_ret2
    exact ⟨rfl, below_alloc (below_alloc (Below.refl _ _) _) _⟩
theorem voices_Middle.calls (a0 a1 : Int) (A2 : Option Addr) (c2 : Nat) (l2 : List (List Int)) (r1 : List Int) (r2 : Int) (w : World) (hr2 : Kd.C (Kd.slice 3 (Kd.int .i64)) w A2 l2.length l2) (hc2 : l2.length ≤ c2) (h : voices_Middle.f a0 a1 l2 = some (r1, r2)) :
    Calls Try.prog 29 #[.int .i64 a0, .int .i64 a1, .slice A2 l2.length c2] w fun e w' => ∃ v0_ : Value, e = .returned (.tuple #[v0_, .int .i64 r2]) ∧ Kd.R (Kd.int .i64) 3 w' w.heap.size (fun _ => True) v0_ r1 ∧ Below w.heap.size w w' := by
  unfold voices_Middle.f at h
  by_cases hv : VcsN a0 a1 l2
  · rw [if_pos hv] at h
    simp only [Option.some.injEq, Prod.mk.injEq] at h
    obtain ⟨rfl, rfl⟩ := h
    obtain ⟨n, rfl⟩ : ∃ n : Nat, a0 = (n : Int) := ⟨a0.toNat, by have := hv.2.2.2.2.2.2.1; omega⟩
    obtain ⟨k, rfl⟩ : ∃ k : Nat, a1 = (k : Int) := ⟨a1.toNat, by have := hv.2.1; omega⟩
    refine (callsIn_wide.1 (middle_ok n k A2 c2 l2 w hv hr2 hc2)).mono ?_
    rintro e w' ⟨ad, cap, v, d, hm, rfl, hr, hb⟩
    exact ⟨_, rfl, by rw [Int.toNat_natCast, Int.toNat_natCast, hm]; exact hr, hb⟩
  · rw [if_neg hv] at h
    simp only [Option.some.injEq, Prod.mk.injEq] at h
    obtain ⟨rfl, rfl⟩ := h
    refine (middle_no a0 a1 A2 c2 l2 w hv hr2 hc2).mono ?_
    rintro e w' ⟨rfl, hb⟩
    exact ⟨_, rfl, Kd.R_nil _ _ _ _ _, hb⟩

end Go.Proofs.Ytdnjbjcfbdclfaa.P
namespace Go.Proofs.Ytdnjbjcfbdclfaa.P
open Go.RowKit Go.Proofs.YtdnjbjcfbdclfaaW.PrintWords Go.Proofs.YtdnjbjcfbdclfaaW.PrintLast Go.Proofs.YtdnjbjcfbdclfaaW.PrintMore
attribute [local go_sem] max2_int min2_int max_two min_two max_three min_three max_four min_four   -- for this text's walks alone
set_option linter.unusedVariables false
set_option linter.unusedSimpArgs false

/-! the document's list of all leadings -/
def rlead (k : Nat) : Nat → List Nat → List (List Nat)
  | 0, cur => [cur]
  | r + 1, cur => (List.range k).flatMap fun x => if x ∈ cur then [] else rlead k r (cur ++ [x])
def rleadTo (k r : Nat) (cur : List Nat) (m : Nat) : List (List Nat) := (List.range m).flatMap fun x => if x ∈ cur then [] else rlead k r (cur ++ [x])
theorem rleadTo_succ (k r : Nat) (cur : List Nat) (m : Nat) : rleadTo k r cur (m + 1) = rleadTo k r cur m ++ (if m ∈ cur then [] else rlead k r (cur ++ [m])) := by
  unfold rleadTo; rw [List.range_succ]; simp
theorem len_le_of_sub : ∀ (l l' : List Nat), l.Nodup → (∀ c, c ∈ l → c ∈ l') → l.length ≤ l'.length
  | [], _, _, _ => Nat.zero_le _
  | c :: l, l', hd, hs => by
    have h1 := hs c (by simp)
    have hd' := List.nodup_cons.1 hd
    have := len_le_of_sub l (l'.erase c) hd'.2 (fun x hx => by
      have hx' := hs x (by simp [hx])
      have hne : x ≠ c := fun e => hd'.1 (e ▸ hx)
      exact (List.mem_erase_of_ne hne).2 hx')
    rw [List.length_erase_of_mem h1] at this
    have hp : 0 < l'.length := List.length_pos_of_mem h1
    simp only [List.length_cons]; omega
theorem rlead_ne {k : Nat} : ∀ (r : Nat) (cur : List Nat), cur.length + r = k → rlead k r cur ≠ []
  | 0, _, _ => by simp [rlead]
  | r + 1, cur, h => by
    have : ∃ x, x < k ∧ x ∉ cur := by
      refine Classical.byContradiction fun hn => ?_
      have h1 := len_le_of_sub (List.range k) cur List.nodup_range (fun x hx => Classical.byContradiction fun h2 => hn ⟨x, List.mem_range.1 hx, h2⟩)
      rw [List.length_range] at h1; omega
    obtain ⟨x, hx, hc⟩ := this
    obtain ⟨l, hl⟩ := List.exists_mem_of_ne_nil _ (rlead_ne (k := k) r (cur ++ [x]) (by rw [List.length_append, List.length_singleton]; omega))
    refine List.ne_nil_of_mem (a := l) ?_
    simp only [rlead]
    rw [List.mem_flatMap]
    exact ⟨x, List.mem_range.2 hx, by rw [if_neg hc]; exact hl⟩
theorem flat_congr {l : List Nat} {f g : Nat → List (List Nat)} (h : ∀ x ∈ l, f x = g x) : l.flatMap f = l.flatMap g := by
  rw [List.flatMap_def, List.flatMap_def, List.map_congr_left h]
theorem ldg_rlead {k : Nat} : ∀ (r used : Nat) (cur : List Nat), (∀ x, x < k → used.testBit x = decide (x ∈ cur)) → ldg k r used cur = rlead k r cur
  | 0, _, _, _ => rfl
  | r + 1, used, cur, h => by
    simp only [ldg, rlead]
    refine flat_congr (fun x hx => ?_)
    have hx' := List.mem_range.1 hx
    rw [h x hx']
    by_cases hc : x ∈ cur
    · simp [hc]
    · simp only [hc, decide_false, Bool.false_eq_true, if_false]
      exact ldg_rlead r (used ||| 2 ^ x) (cur ++ [x]) (fun y hy => by
        rw [Nat.testBit_or, Nat.testBit_two_pow, h y hy]
        by_cases h1 : y ∈ cur <;> by_cases h2 : x = y <;> simp [h1, h2, eq_comm]
        all_goals (first | (intro h3; exact absurd h3.symm h2) | skip))
theorem ldg_all (k : Nat) : ldg k k 0 [] = rlead k k [] := ldg_rlead k 0 [] (fun x _ => by simp)
/-- rows of numbers of the call's own -/
def RowOf (W : World) (base : Nat) (v : Value) (l : List Nat) : Prop := ∃ A c, v = .slice A (nums l).length c ∧ Kd.R (Kd.int .i64) 3 W base (fun _ => True) v (nums l)
def All2 (W : World) (base : Nat) : List Value → List (List Nat) → Prop
  | [], [] => True
  | v :: vs, l :: ls => RowOf W base v l ∧ All2 W base vs ls
  | _, _ => False
theorem RowOf.below {W W' : World} {base : Nat} {v : Value} {l : List Nat} (h : RowOf W base v l) (hb : Below W.heap.size W W') : RowOf W' base v l := by
  obtain ⟨A, c, e, hR⟩ := h
  exact ⟨A, c, e, Kd.R_below hR hb⟩
theorem All2.below {W W' : World} {base : Nat} (hb : Below W.heap.size W W') : ∀ {vs : List Value} {ls : List (List Nat)}, All2 W base vs ls → All2 W' base vs ls
  | [], [], _ => trivial
  | _ :: _, _ :: _, h => ⟨h.1.below hb, All2.below hb h.2⟩
theorem All2.append {W : World} {base : Nat} : ∀ {vs us : List Value} {ls ms : List (List Nat)}, All2 W base vs ls → All2 W base us ms → All2 W base (vs ++ us) (ls ++ ms)
  | [], _, [], _, _, h => h
  | _ :: _, _, _ :: _, _, h, h2 => ⟨h.1, All2.append h.2 h2⟩
theorem All2.length {W : World} {base : Nat} : ∀ {vs : List Value} {ls : List (List Nat)}, All2 W base vs ls → vs.length = ls.length
  | [], [], _ => rfl
  | _ :: _, _ :: _, h => by rw [List.length_cons, List.length_cons, All2.length h.2]
theorem RowOf.over {W w1 : World} {base : Nat} {u v : Value} {l : List Nat} (h : RowOf W base u l) (hty : ∀ k, v.ownBlock = some k → ∃ cells, W.heap[k]? = some (.cells cells 22 (0, 0))) (hg : W.grownBy w1 v.ownBlock) : RowOf w1 base u l := by
  obtain ⟨A, c, e, hR⟩ := h
  exact ⟨A, c, e, Kd.R_over' hR hty (by intro q hq; simp [Kd.int, Kd.scalar] at hq; subst hq; decide) hg⟩
theorem All2.over {W w1 : World} {base : Nat} {v : Value} (hty : ∀ k, v.ownBlock = some k → ∃ cells, W.heap[k]? = some (.cells cells 22 (0, 0))) (hg : W.grownBy w1 v.ownBlock) : ∀ {vs : List Value} {ls : List (List Nat)}, All2 W base vs ls → All2 w1 base vs ls
  | [], [], _ => trivial
  | _ :: _, _ :: _, h => ⟨h.1.over hty hg, All2.over hty hg h.2⟩
theorem flat_len {l : List Nat} {f : Nat → List (List Nat)} {m : Nat} (h : ∀ x ∈ l, (f x).length ≤ m) : (l.flatMap f).length ≤ l.length * m := by
  induction l with
  | nil => simp
  | cons x l ih =>
    have h1 := h x (by simp)
    have h2 := ih (fun y hy => h y (by simp [hy]))
    rw [List.flatMap_cons, List.length_append, List.length_cons, Nat.add_mul]; omega
theorem rlead_len {k : Nat} : ∀ (r : Nat) (cur : List Nat), (rlead k r cur).length ≤ k ^ r
  | 0, _ => by simp [rlead]
  | r + 1, cur => by
    have : ∀ x ∈ List.range k, (if x ∈ cur then ([] : List (List Nat)) else rlead k r (cur ++ [x])).length ≤ k ^ r := fun x _ => by
      split
      · simp
      · exact rlead_len r _
    have h := flat_len this
    rw [List.length_range] at h
    simp only [rlead]
    rw [Nat.pow_succ, Nat.mul_comm]; exact h
theorem rleadTo_len {k r m : Nat} {cur : List Nat} (hm : m ≤ k) (hk : k ≤ 6) (hr : r + 1 ≤ 6) : (rleadTo k r cur m).length ≤ 46656 := by
  have : ∀ x ∈ List.range m, (if x ∈ cur then ([] : List (List Nat)) else rlead k r (cur ++ [x])).length ≤ 6 ^ 5 := fun x _ => by
    split
    · simp
    · refine Nat.le_trans (rlead_len r _) (Nat.le_trans (Nat.pow_le_pow_left hk r) (Nat.pow_le_pow_right (by omega) (by omega)))
  have h := flat_len this
  rw [List.length_range] at h
  unfold rleadTo
  have : m * 6 ^ 5 ≤ 6 * 6 ^ 5 := Nat.mul_le_mul_right _ (by omega)
  omega
theorem RowOf.one {W : World} {base : Nat} {v : Value} {l : List Nat} (h : RowOf W base v l) : v.oneCell' = true := by
  obtain ⟨A, c, e, _⟩ := h; rw [e]; rfl
theorem All2.one {W : World} {base : Nat} : ∀ {vs : List Value} {ls : List (List Nat)}, All2 W base vs ls → ∀ u ∈ vs, u.oneCell' = true
  | [], [], _, u, hu => by cases hu
  | _ :: _, _ :: _, h, u, hu => by
    rcases List.mem_cons.1 hu with rfl | hu
    · exact h.1.one
    · exact All2.one h.2 u hu
theorem All2.get {W : World} {base : Nat} : ∀ {vs : List Value} {ls : List (List Nat)}, All2 W base vs ls → ∀ (i : Nat) (l : List Nat), ls[i]? = some l → ∃ v, vs[i]? = some v ∧ RowOf W base v l
  | [], [], _, i, l, h => by simp at h
  | v :: vs, l' :: ls, h, 0, l, hl => by
    simp only [List.getElem?_cons_zero, Option.some.injEq] at hl
    subst hl
    exact ⟨v, rfl, h.1⟩
  | v :: vs, l' :: ls, h, i + 1, l, hl => by
    simp only [List.getElem?_cons_succ] at hl ⊢
    exact All2.get h.2 i l hl
def LeadsPost (base : Nat) (W : World) (L : List (List Nat)) (e : Ending) (w' : World) : Prop := ∃ v vs, e = .returned v ∧ w'.ownsRow W.heap.size 22 1 v vs.length vs ∧ All2 w' base vs L ∧ Below W.heap.size W w'
/-- a row of the call's own has its cells somewhere, where it has any -/
theorem own_some {w : World} {base : Nat} {e : TypeId} {v : Value} {vs : List Value} (h : w.ownsRow base e 1 v vs.length vs) (hne : 0 < vs.length) : ∃ g c, v = .slice (some ⟨g, 0, none⟩) vs.length c ∧ ∀ j u, vs[j]? = some u → w.cell? ((⟨g, 0, none⟩ : Addr).add j) = some u := by
  have hc : ∀ g, v.ownBlock = some g → ∀ j u, vs[j]? = some u → w.cell? ((⟨g, 0, none⟩ : Addr).add j) = some u := fun g hg => h.cells hg
  obtain ⟨_, h2⟩ := h
  rcases h2 with ⟨_, h0⟩ | ⟨g, cap, cur, e1, _⟩
  · omega
  · exact ⟨g, cap, e1, hc g (by rw [e1]; rfl)⟩
theorem infoS : (Try.prog.info? 22).map (fun i => (i.zero, i.size, i.bytes)) = some (some (.slice none 0 0), 1, 24) := by kernel_rfl
theorem R_fresh {w : World} {base : Nat} {v : Value} {xs : List Int} (h : w.ownsRow base 3 1 v xs.length (xs.map (Value.int .i64))) : Kd.R (Kd.int .i64) 3 w base (fun _ => True) v xs := Kd.R_of_own (h1 := fun _ => rfl) h (fun _ _ => trivial)
set_option maxHeartbeats 4000000 in
set_option maxRecDepth 100000 in
theorem leads_end (k : Nat) (base : Nat) (A : Option Addr) (c : Nat) (cur : List Nat) (W : World) (hc : cur.length = k) (hR : Kd.R (Kd.int .i64) 3 W base (fun _ => True) (.slice A (nums cur).length c) (nums cur)) :
    Calls Try.prog 41 #[.int .i64 (k : Int), .slice A (nums cur).length c] W (LeadsPost base W [cur]) := by
  have hlen : (nums cur).length = k := by rw [nums_length, hc]
  have HR := Aside0.mk hR
  have HL := Aside0.mk hlen
  rw [hlen]
  clear hR hc hlen
  go_enter Try.func41, Try.ntmps41
  go_wp2
  go_ret
  refine ⟨_, [.slice A k c], rfl, World.ownsRow_lit (base := W.heap.size) (e := 22) (size := 1) W #[.slice A k c] 1 (Nat.le_refl _) (by simp [maxLen]) (by simp), ⟨?_, trivial⟩, below_alloc (Below.refl _ _) _⟩
  refine ⟨A, c, by rw [HL.out], ?_⟩
  rw [← HL.out]
  exact Kd.R_alloc HR.out _
theorem nums_get {cur : List Nat} {j : Nat} (h : j < cur.length) : rd (nums cur) (j : Int) = (cur[j] : Int) := by
  rw [rd_get (by rw [nums_length]; exact h)]; simp [nums]
theorem any_take {cur : List Nat} {j x : Nat} (h : j < cur.length) : (decide (x ∈ cur.take (j + 1))) = (decide (x ∈ cur.take j) || decide (x = cur[j])) := by
  rw [List.take_succ_eq_append_getElem h, ← Bool.decide_or, decide_eq_decide, List.mem_append, List.mem_singleton]
theorem nums_cells {W : World} {A : Option Addr} {cur : List Nat} (h : Kd.C (Kd.int .i64) W A (nums cur).length (nums cur)) : ∀ b, A = some b → ∀ j u, ((nums cur).map (Value.int .i64))[j]? = some u → W.cell? (b.add j) = some u := by
  intro b hb j u hu
  rw [List.getElem?_map, Option.map_eq_some_iff] at hu
  obtain ⟨x, hx, rfl⟩ := hu
  have hj := (List.getElem?_eq_some_iff.1 hx).1
  obtain ⟨ad, e, hc⟩ := Kd.at_int h (j : Int) (by omega) (by omega)
  rw [hb] at e
  injection e with e
  subst e
  rw [Int.toNat_natCast, rd_get hj] at hc
  rw [hc, (List.getElem?_eq_some_iff.1 hx).2]
set_option maxHeartbeats 8000000 in
set_option maxRecDepth 100000 in
theorem leads_more (k : Nat) (hk : k ≤ 6) (r : Nat) (base : Nat) (A : Option Addr) (c : Nat) (cur : List Nat) (W : World) (hc : cur.length + (r + 1) = k) (hb : base ≤ W.heap.size) (hR : Kd.R (Kd.int .i64) 3 W base (fun _ => True) (.slice A (nums cur).length c) (nums cur))
    (ih : ∀ (x : Nat) (A : Option Addr) (c : Nat) (W : World), x < k → x ∉ cur → base ≤ W.heap.size → Kd.R (Kd.int .i64) 3 W base (fun _ => True) (.slice A (nums (cur ++ [x])).length c) (nums (cur ++ [x])) →
      Calls Try.prog 41 #[.int .i64 (k : Int), .slice A (nums (cur ++ [x])).length c] W (LeadsPost base W (rlead k r (cur ++ [x])))) :
    Calls Try.prog 41 #[.int .i64 (k : Int), .slice A (nums cur).length c] W (LeadsPost base W (rleadTo k r cur k)) := by
  obtain ⟨L, hlen⟩ : ∃ L, (nums cur).length = L := ⟨_, rfl⟩
  have hLk : L < k := by rw [nums_length] at hlen; omega
  have hcl : cur.length = L := by rw [← nums_length]; exact hlen
  have HR := Aside0.mk hR
  have HRC := Aside0.mk (Kd.R_reads' hR).2.2
  have hcc := (Kd.R_reads' hR).2.1
  rw [hlen] at hcc HR ⊢
  have HL := Aside0.mk hlen
  have HCL := Aside0.mk hcl
  have HIH := Aside0.mk ih
  have HB := Aside0.mk hb
  have HCK := Aside0.mk hc
  have hne : ((L : Int) == (k : Int)) = false := beq_eq_false_iff_ne.2 (by omega)
  obtain ⟨i0, hi, hz0, hz1, hz2⟩ := info_parts info3
  obtain ⟨i1, hi1, hy0, hy1, hy2⟩ := info_parts infoS
  have HI0 := Aside0.mk hi
  have HI1 := Aside0.mk hi1
  have HZ := Aside0.mk (show i0.zero = some (.int .i64 0) ∧ i0.size = 1 ∧ i0.bytes = 8 ∧ i1.zero = some (.slice none 0 0) ∧ i1.size = 1 ∧ i1.bytes = 24 from ⟨hz0, hz1, hz2, hy0, hy1, hy2⟩)
  have HNONE := Aside0.mk (show A = none → L = 0 ∧ L = 0 from fun e => by
    rcases Nat.eq_zero_or_pos L with h | h
    · exact ⟨h, h⟩
    · obtain ⟨ad, e2, _⟩ := Kd.at_int HRC.out 0 (by omega) (by omega)
      rw [e] at e2; cases e2)
  clear hR hlen hcl ih hb hc hi hz0 hz1 hz2 hi1 hy0 hy1 hy2
  go_enter Try.func41, Try.ntmps41
  go_wp2
  go_loopg [5, 17] k (fun gg s5 s17 wr => ∃ (x : Nat) (v : Value) (vs : List Value), s17 = .int .i64 x ∧ s5 = v ∧ Aside0 (x + gg = k) ∧ Aside0 (wr.ownsRow W.heap.size 22 1 v vs.length vs) ∧ Aside0 (All2 wr base vs (rleadTo k r cur x)) ∧ Aside0 (Below W.heap.size W wr))
  case atStart => exact ⟨0, _, [], rfl, rfl, ⟨by omega⟩, ⟨World.ownsRow_nil _ _ _ _⟩, ⟨trivial⟩, ⟨Below.refl _ _⟩⟩
  case round =>
    obtain ⟨x, v, vs, rfl, rfl, HX, HO, HA, HBW⟩ := hrel
    have HS := Aside0.mk (rleadTo_succ k r cur x)
    obtain ⟨G, rfl⟩ : ∃ G, G = gk := ⟨gk, rfl⟩
    obtain ⟨wo, rfl⟩ : ∃ wo : World, wo = wr := ⟨wr, rfl⟩
    by_cases hlt : x < k
    · have hltz : (x : Int) < (k : Int) := by omega
      clear hne
      go_wp2
      go_loopg [7, 22] L (fun gg s7 s22 w2 => ∃ (j q : Nat), s22 = .int .i64 j ∧ s7 = .bool (decide (x ∈ cur.take j)) ∧ w2 = wo.drewN q ∧ Aside0 (j + gg = L))
      case atStart => exact ⟨0, 0, rfl, by simp, rfl, ⟨by omega⟩⟩
      case round =>
        obtain ⟨j, q, rfl, rfl, rfl, HJ⟩ := hrel
        by_cases hj : j < L
        · have hjz : (j : Int) < (L : Int) := by omega
          obtain ⟨ad, e, hcell⟩ := Kd.at_int (Kd.C_below HRC.out HBW.out) (j : Int) (by omega) (by rw [HL.out]; exact hjz)
          rw [nums_get (by rw [HCL.out]; exact hj), Int.toNat_natCast] at hcell
          cases e
          have HT := Aside0.mk (any_take (x := x) (show j < cur.length by rw [HCL.out]; exact hj))
          generalize hy : cur[j]'(by rw [HCL.out]; exact hj) = y at hcell HT
          clear hy
          cases ho : decide (x ∈ cur.take j) with
          | true =>
            rw [ho, Bool.true_or] at HT
            clear ho
            go_wp2
            go_roundg (gk - 1)
            case measure => have := HJ.out; omega
            case rel => exact ⟨j + 1, q, by go_num, by rw [HT.out], rfl, ⟨by have := HJ.out; omega⟩⟩
          | false =>
            rw [ho, Bool.false_or] at HT
            clear ho
            by_cases hxy : x = y
            · rw [decide_eq_true hxy] at HT
              have e6 : ((x : Int) == (y : Int)) = true := by rw [hxy]; exact beq_self_eq_true _
              clear hxy
              go_wp2
              go_roundg (gk - 1)
              case measure => have := HJ.out; omega
              case rel => exact ⟨j + 1, q, by go_num, by rw [HT.out], rfl, ⟨by have := HJ.out; omega⟩⟩
            · rw [decide_eq_false hxy] at HT
              have e6 : ((x : Int) == (y : Int)) = false := beq_eq_false_iff_ne.2 (by omega)
              clear hxy
              go_wp2
              go_roundg (gk - 1)
              case measure => have := HJ.out; omega
              case rel => exact ⟨j + 1, q, by go_num, by rw [HT.out], rfl, ⟨by have := HJ.out; omega⟩⟩
        · have hjL : j = L := by have := HJ.out; omega
          have hjz : ¬ (j : Int) < (L : Int) := by omega
          have HALL := Aside0.mk (show decide (x ∈ cur.take j) = decide (x ∈ cur) by rw [List.take_of_length_le (by rw [HCL.out]; omega)])
          have HX5 := Aside0.mk hjL
          clear hjL
          cases ho : decide (x ∈ cur.take j) with
          | true =>
            rw [ho] at HALL
            have HM := Aside0.mk (of_decide_eq_true HALL.out.symm)
            rw [if_pos HM.out, List.append_nil] at HS
            clear ho
            go_wp2
            go_roundg (G - 1)
            case measure => have := HX.out; omega
            case rel => exact ⟨x + 1, _, vs, by go_num, rfl, ⟨by have := HX.out; omega⟩, ⟨own_move HO.out (fun _ _ => rfl)⟩, ⟨by rw [HS.out]; exact HA.out.below (pw_below_drewN (Below.refl _ _) q)⟩, ⟨pw_below_drewN HBW.out q⟩⟩
          | false =>
            rw [ho] at HALL
            have HM := Aside0.mk (of_decide_eq_false HALL.out.symm)
            rw [if_neg HM.out] at HS
            clear ho
            have hLc : (L : Int) ≤ (c : Int) := by omega
            have hsz := HBW.out.size
            have HCB := Aside0.mk (nums_cells (W := (wo.drewN q).alloc (.cells #[.int .i64 (x : Int)] 3)) (A := A) (cur := cur) (Kd.C_alloc (Kd.C_drewN (Kd.C_below HRC.out HBW.out) q) _))
            have HNL := Aside0.mk (show ((nums cur).map (Value.int .i64)).length = L * 1 by rw [List.length_map, HL.out, Nat.mul_one])
            have HNC := Aside0.mk (new_cell (wo.drewN q) (.int .i64 (x : Int)) 3)
            go_wp2_with (((with_reducible refine gate_builtin (b := .append) (xs := #[.tmp 42, .tmp 44]) rfl ?_); at_builtin; refine wpList_append_grows _ rfl _ _ 22 rfl 3 i0 (.int .i64 0) 1 8 Try.underlying22 HI0.out HZ.out.1 HZ.out.2.1 HZ.out.2.2.1 rfl (by decide) A L L ((nums cur).map (Value.int .i64)) rfl HNONE.out HNL.out HCB.out ⟨wo.heap.size, 0, none⟩ 1 1 [.int .i64 (x : Int)] rfl rfl ?c1 ?c2 (by omega) ?c3 ?c4 ?_; (case c1 => intro j u hu; cases j with
              | zero => simp only [List.getElem?_cons_zero, Option.some.injEq] at hu; subst hu; exact HNC.out.1
              | succ j => simp at hu); (case c2 => intro u hu; rw [List.mem_singleton] at hu; subst hu; rfl); (case c3 => simp only [maxLen]; omega); (case c4 => omega); intro v5 w5 ho5 hg5))
            have hrow : (((nums cur).map (Value.int .i64)) ++ [Value.int .i64 (x : Int)]) = (nums (cur ++ [x])).map (Value.int .i64) := by rw [nums_snoc]; simp
            have hlen2 : L + 1 = (nums (cur ++ [x])).length := by rw [nums_snoc, List.length_append, HL.out]; rfl
            rw [hrow] at ho5
            have ho6 := ho5
            rw [hlen2] at ho6
            have hR5 := R_fresh ho6
            obtain ⟨A5, c5, e5⟩ := Kd.R_slice hR5
            subst e5
            have hb5 : Below wo.heap.size wo w5 := ((below_alloc (pw_below_drewN (Below.refl wo.heap.size wo) q) _).grown hg5 (by simp) (fun k e => by cases e))
            have HB5 := Aside0.mk hb5
            have hrun := HIH.out x A5 c5 w5 hlt HM.out (Nat.le_trans HB.out (Nat.le_trans HBW.out.size hb5.size)) (Kd.R_lower hR5 (by simp only [World.size_alloc]; have := HB.out; have := HBW.out.size; show base ≤ wo.heap.size + 1; omega))
            rw [← hlen2] at hrun ⊢
            have HRUN := Aside0.mk hrun
            clear hrow hlen2 ho5 ho6 hR5 hb5 hg5 hrun hsz
            go_wp2_with fail
            refine HRUN.out.mono ?_
            rintro e w6 ⟨v6, vs6, rfl, ho6, ha6, hb6⟩
            have hne6 : 0 < vs6.length := by
              rw [ha6.length]
              exact List.length_pos_iff.2 (rlead_ne r _ (by rw [List.length_append, List.length_singleton]; have := HCK.out; omega))
            obtain ⟨g6, c6, e6, hc6⟩ := own_some ho6 hne6
            subst e6
            have HA6 := Aside0.mk ha6
            have HC6 := Aside0.mk hc6
            have HBL := Aside0.mk (HB5.out.trans (hb6.mono HB5.out.size))
            have HO6 := Aside0.mk (own_move HO.out (fun k hk => HBL.out.block k (own_lt HO.out k hk)))
            have HN1 := Aside0.mk (rleadTo_len (k := k) (r := r) (m := x + 1) (cur := cur) (by omega) hk (by have := HCK.out; omega))
            have HN2 : Aside0 (vs.length + vs6.length ≤ 46656) := ⟨by
              have h1 := HN1.out
              rw [HS.out, List.length_append] at h1
              rw [HA.out.length, ha6.length]; exact h1⟩
            clear ho6 ha6 hb6 hc6 hne6 HN1
            go_wp2_with (((with_reducible refine gate_builtin (b := .append) (xs := #[.tmp 35, .tmp 46]) rfl ?_); at_builtin; refine wpList_append_own _ rfl _ _ 43 rfl W.heap.size 22 i1 (.slice none 0 0) 1 24 Try.underlying43 HI1.out HZ.out.2.2.2.1 HZ.out.2.2.2.2.1 HZ.out.2.2.2.2.2 rfl (by decide) _ vs.length vs rfl HO6.out ⟨g6, 0, none⟩ vs6.length c6 vs6 rfl (Nat.mul_one _).symm HC6.out HA6.out.one ?c5 ?c6 ?c7 ?_; (case c5 => simp only [maxLen]; have := HN2.out; omega); (case c6 => have := HN2.out; omega); (case c7 => exact Nat.le_trans HBW.out.size HBL.out.size); intro v7 w7 ho7 hg7 _))
            go_roundg (G - 1)
            case measure => have := HX.out; omega
            case rel =>
              refine ⟨x + 1, v7, vs ++ vs6, by go_num, rfl, ⟨by have := HX.out; omega⟩, ⟨by rw [List.length_append]; exact ho7⟩, ⟨?_⟩, ⟨((HBW.out.trans (HBL.out.mono HBW.out.size))).grown hg7 (Nat.le_trans HBW.out.size HBL.out.size) (fun k hk => own_base HO6.out k hk)⟩⟩
              rw [HS.out]
              exact ((HA.out.below HBL.out).append HA6.out).over (fun k hk => own_typed HO6.out k hk) hg7
    · have hxk : x = k := by have := HX.out; omega
      have HXK := Aside0.mk hxk
      clear hxk
      have hltz : ¬ (x : Int) < (k : Int) := by omega
      go_wp2
      go_ret
      have ha := HA.out
      rw [HXK.out] at ha
      exact ⟨_, vs, rfl, HO.out, ha, HBW.out⟩
theorem refLeads_calls (k : Nat) (hk : k ≤ 6) (base : Nat) : ∀ (r : Nat) (A : Option Addr) (c : Nat) (cur : List Nat) (W : World), cur.length + r = k → base ≤ W.heap.size → Kd.R (Kd.int .i64) 3 W base (fun _ => True) (.slice A (nums cur).length c) (nums cur) →
    Calls Try.prog 41 #[.int .i64 (k : Int), .slice A (nums cur).length c] W (LeadsPost base W (rlead k r cur)) := by
  intro r
  induction r with
  | zero => intro A c cur W hc _ hR; exact leads_end k base A c cur W (by omega) hR
  | succ r ih =>
    intro A c cur W hc hb hR
    exact leads_more k hk r base A c cur W hc hb hR (fun x A c W _ _ hb hR => ih A c (cur ++ [x]) W (by rw [List.length_append, List.length_singleton]; omega) hb hR)

end Go.Proofs.Ytdnjbjcfbdclfaa.P
namespace Go.Proofs.Ytdnjbjcfbdclfaa.P
open Go.RowKit Go.Proofs.YtdnjbjcfbdclfaaW.PrintWords Go.Proofs.YtdnjbjcfbdclfaaW.PrintLast Go.Proofs.YtdnjbjcfbdclfaaW.PrintMore
attribute [local go_sem] max2_int min2_int max_two min_two max_three min_three max_four min_four   -- for this text's walks alone
set_option linter.unusedVariables false
set_option linter.unusedSimpArgs false

/-! the document's list of all voicings -/
theorem alN_len {n : Nat} : ∀ (r f : Nat) (cur : List Nat), (alN n r f cur).length ≤ n ^ r
  | 0, _, _ => by simp [alN]
  | r + 1, f, cur => by
    have h := flat_len (l := List.range (n - f)) (f := fun i => alN n r (f + i) (cur ++ [f + i])) (m := n ^ r) (fun x _ => alN_len r _ _)
    rw [List.length_range] at h
    simp only [alN]
    rw [Nat.pow_succ, Nat.mul_comm]
    exact Nat.le_trans h (Nat.mul_le_mul_right _ (Nat.sub_le _ _))
theorem alTo_len {n r f m : Nat} {cur : List Nat} (hm : m ≤ n) (hn : n ≤ 12) (hr : r + 1 ≤ 3) : (alTo n r f cur m).length ≤ 1728 := by
  have h := flat_len (l := List.range m) (f := fun i => alN n r (f + i) (cur ++ [f + i])) (m := 12 ^ 2) (fun x _ => Nat.le_trans (alN_len r _ _) (Nat.le_trans (Nat.pow_le_pow_left hn r) (Nat.pow_le_pow_right (by omega) (by omega))))
  rw [List.length_range] at h
  unfold alTo
  have : m * 12 ^ 2 ≤ 12 * 12 ^ 2 := Nat.mul_le_mul_right _ (by omega)
  omega
theorem alN_ne9 {n : Nat} : ∀ (r f : Nat) (cur : List Nat), f < n → alN n r f cur ≠ []
  | 0, f, cur, _ => by rw [alN]; exact List.cons_ne_nil _ _
  | r + 1, f, cur, hf => fun e => by
    rw [alN, List.flatMap_eq_nil_iff] at e
    exact alN_ne9 r (f + 0) (cur ++ [f + 0]) (by omega) (e 0 (List.mem_range.2 (by omega)))
/-- the last tone begun -/
def lastF (cur : List Nat) : Nat := cur.getLast?.getD 0
theorem lastF_snoc (cur : List Nat) (x : Nat) : lastF (cur ++ [x]) = x := by unfold lastF; simp
theorem lastF_get {cur : List Nat} (h : 0 < cur.length) : cur[cur.length - 1] = lastF cur := by unfold lastF; rw [List.getLast?_eq_getElem?, List.getElem?_eq_getElem (by omega)]; rfl
set_option maxHeartbeats 4000000 in
set_option maxRecDepth 100000 in
theorem alls_end (n : Int) (k : Nat) (base : Nat) (A : Option Addr) (c : Nat) (cur : List Nat) (W : World) (hc : cur.length = k) (hR : Kd.R (Kd.int .i64) 3 W base (fun _ => True) (.slice A (nums cur).length c) (nums cur)) :
    Calls Try.prog 48 #[.int .i64 n, .int .i64 (k : Int), .slice A (nums cur).length c] W (LeadsPost base W [cur]) := by
  have hlen : (nums cur).length = k := by rw [nums_length, hc]
  have HR := Aside0.mk hR
  have HL := Aside0.mk hlen
  rw [hlen]
  clear hR hc hlen
  go_enter Try.func48, Try.ntmps48
  go_wp2
  go_ret
  refine ⟨_, [.slice A k c], rfl, World.ownsRow_lit (base := W.heap.size) (e := 22) (size := 1) W #[.slice A k c] 1 (Nat.le_refl _) (by simp [maxLen]) (by simp), ⟨?_, trivial⟩, below_alloc (Below.refl _ _) _⟩
  refine ⟨A, c, by rw [HL.out], ?_⟩
  rw [← HL.out]
  exact Kd.R_alloc HR.out _
set_option maxHeartbeats 8000000 in
set_option maxRecDepth 100000 in
theorem alls_more (n k : Nat) (hn : n ≤ 12) (hk : k ≤ 3) (r : Nat) (base : Nat) (A : Option Addr) (c : Nat) (cur : List Nat) (W : World) (hc : cur.length + (r + 1) = k) (hf : lastF cur ≤ n) (hb : base ≤ W.heap.size) (hR : Kd.R (Kd.int .i64) 3 W base (fun _ => True) (.slice A (nums cur).length c) (nums cur))
    (ih : ∀ (x : Nat) (A : Option Addr) (c : Nat) (W : World), x < n → base ≤ W.heap.size → Kd.R (Kd.int .i64) 3 W base (fun _ => True) (.slice A (nums (cur ++ [x])).length c) (nums (cur ++ [x])) →
      Calls Try.prog 48 #[.int .i64 (n : Int), .int .i64 (k : Int), .slice A (nums (cur ++ [x])).length c] W (LeadsPost base W (alN n r x (cur ++ [x])))) :
    Calls Try.prog 48 #[.int .i64 (n : Int), .int .i64 (k : Int), .slice A (nums cur).length c] W (LeadsPost base W (alTo n r (lastF cur) cur (n - lastF cur))) := by
  obtain ⟨L, hlen⟩ : ∃ L, (nums cur).length = L := ⟨_, rfl⟩
  have hLk : L < k := by rw [nums_length] at hlen; omega
  have hcl : cur.length = L := by rw [← nums_length]; exact hlen
  have HR := Aside0.mk hR
  have HRC := Aside0.mk (Kd.R_reads' hR).2.2
  have hcc := (Kd.R_reads' hR).2.1
  rw [hlen] at hcc HR ⊢
  have HL := Aside0.mk hlen
  have HCL := Aside0.mk hcl
  have HIH := Aside0.mk ih
  have HB := Aside0.mk hb
  have HCK := Aside0.mk hc
  have HF := Aside0.mk hf
  have hne : ((L : Int) == (k : Int)) = false := beq_eq_false_iff_ne.2 (by omega)
  obtain ⟨i0, hi, hz0, hz1, hz2⟩ := info_parts info3
  obtain ⟨i1, hi1, hy0, hy1, hy2⟩ := info_parts infoS
  have HI0 := Aside0.mk hi
  have HI1 := Aside0.mk hi1
  have HZ := Aside0.mk (show i0.zero = some (.int .i64 0) ∧ i0.size = 1 ∧ i0.bytes = 8 ∧ i1.zero = some (.slice none 0 0) ∧ i1.size = 1 ∧ i1.bytes = 24 from ⟨hz0, hz1, hz2, hy0, hy1, hy2⟩)
  have HNONE := Aside0.mk (show A = none → L = 0 ∧ L = 0 from fun e => by
    rcases Nat.eq_zero_or_pos L with h | h
    · exact ⟨h, h⟩
    · obtain ⟨ad, e2, _⟩ := Kd.at_int HRC.out 0 (by omega) (by omega)
      rw [e] at e2; cases e2)
  obtain ⟨f, hff⟩ : ∃ f, lastF cur = f := ⟨_, rfl⟩
  rw [hff] at HF ⊢
  have HFF := Aside0.mk hff
  clear hR hlen hcl ih hb hc hi hz0 hz1 hz2 hi1 hy0 hy1 hy2 hf hff
  rcases Nat.eq_zero_or_pos L with h0 | h0
  case' inl =>
    have q4 : decide ((0 : Int) < (L : Int)) = false := decide_eq_false (by omega)
    have q5 : decide (0 < L) = false := decide_eq_false (by omega)
    have hf0 : f = 0 := by
      rw [← HFF.out]
      have : cur = [] := List.length_eq_zero_iff.1 (by rw [HCL.out]; exact h0)
      rw [this]; rfl
    have HF0 := Aside0.mk hf0
    clear h0 hf0
  case' inr =>
    have q4 : decide ((0 : Int) < (L : Int)) = true := decide_eq_true (by omega)
    have q5 : decide (0 < L) = true := decide_eq_true h0
    obtain ⟨ad, e, hcell⟩ := Kd.at_int HRC.out ((L - 1 : Nat) : Int) (by omega) (by rw [HL.out]; omega)
    rw [nums_get (by rw [HCL.out]; omega), Int.toNat_natCast] at hcell
    have hl2 : ((L - 1 : Nat) : Int) = (L : Int) - 1 := by omega
    have hgl : cur[L - 1]'(by rw [HCL.out]; omega) = f := by
      have := lastF_get (cur := cur) (by rw [HCL.out]; exact h0)
      simp only [HCL.out, HFF.out] at this; exact this
    rw [hgl] at hcell
    cases e
    have p1 : 0 ≤ (L : Int) - 1 := by omega
    have p2 : (L : Int) - 1 < (L : Int) := by omega
    have hcell2 : W.cell? (ad.add ((L : Int) - 1).toNat) = some (.int .i64 (f : Int)) := by rw [← hl2, Int.toNat_natCast]; exact hcell
    have hw1 : wrap64 ((L : Int) - 1) = (L : Int) - 1 := wrap_id (by omega) (by omega)
    replace p1 := eq_true p1
    replace p2 := eq_true p2
    have p3 : (0 < L) = True := eq_true h0
    have p4 : ((1 : Int) ≤ (L : Int)) = True := eq_true (by omega)
    have p5 : (1 ≤ L) = True := eq_true h0
    have p6 : (L - 1 < L) = True := eq_true (by omega)
    clear hgl h0 hl2
  all_goals
    go_enter Try.func48, Try.ntmps48
    go_wp2
    go_loopg [8, 9] (n - f) (fun gg s8 s9 wr => ∃ (x i : Nat) (v : Value) (vs : List Value), s9 = .int .i64 x ∧ x = f + i ∧ s8 = v ∧ Aside0 (x + gg = n) ∧ Aside0 (wr.ownsRow W.heap.size 22 1 v vs.length vs) ∧ Aside0 (All2 wr base vs (alTo n r f cur i)) ∧ Aside0 (Below W.heap.size W wr))
    case atStart => first | exact ⟨f, 0, _, [], rfl, rfl, rfl, ⟨by have := HF.out; omega⟩, ⟨World.ownsRow_nil _ _ _ _⟩, ⟨trivial⟩, ⟨Below.refl _ _⟩⟩ | exact ⟨0, 0, _, [], rfl, by have := HF0.out; omega, rfl, ⟨by have := HF0.out; omega⟩, ⟨World.ownsRow_nil _ _ _ _⟩, ⟨trivial⟩, ⟨Below.refl _ _⟩⟩
    case round =>
      obtain ⟨x, i, v, vs, rfl, hxi, rfl, HX, HO, HA, HBW⟩ := hrel
      have HXI := Aside0.mk hxi
      have HS := Aside0.mk (alTo_succ n r f cur i)
      rw [← hxi] at HS
      clear hxi
      by_cases hlt : x < n
      · have hltz : (x : Int) < (n : Int) := by omega
        have hlt9 := hlt
        clear hne
        have hLc : (L : Int) ≤ (c : Int) := by omega
        have hsz := HBW.out.size
        have HCB := Aside0.mk (nums_cells (W := wr.alloc (.cells #[.int .i64 (x : Int)] 3)) (A := _) (cur := cur) (Kd.C_alloc (Kd.C_below HRC.out HBW.out) _))
        have HNL := Aside0.mk (show ((nums cur).map (Value.int .i64)).length = L * 1 by rw [List.length_map, HL.out, Nat.mul_one])
        have HNC := Aside0.mk (new_cell wr (.int .i64 (x : Int)) 3)
        go_wp2_with (((with_reducible refine gate_builtin (b := .append) (xs := #[.tmp 39, .tmp 41]) rfl ?_); at_builtin; refine wpList_append_grows _ rfl _ _ 22 rfl 3 i0 (.int .i64 0) 1 8 Try.underlying22 HI0.out HZ.out.1 HZ.out.2.1 HZ.out.2.2.1 rfl (by decide) _ L L ((nums cur).map (Value.int .i64)) rfl HNONE.out HNL.out HCB.out ⟨wr.heap.size, 0, none⟩ 1 1 [.int .i64 (x : Int)] rfl rfl ?c1 ?c2 (by omega) ?c3 ?c4 ?_; (case c1 => intro j u hu; cases j with
          | zero => simp only [List.getElem?_cons_zero, Option.some.injEq] at hu; subst hu; exact HNC.out.1
          | succ j => simp at hu); (case c2 => intro u hu; rw [List.mem_singleton] at hu; subst hu; rfl); (case c3 => simp only [maxLen]; omega); (case c4 => omega); intro v5 w5 ho5 hg5))
        have hrow : (((nums cur).map (Value.int .i64)) ++ [Value.int .i64 (x : Int)]) = (nums (cur ++ [x])).map (Value.int .i64) := by rw [nums_snoc]; simp
        have hlen2 : L + 1 = (nums (cur ++ [x])).length := by rw [nums_snoc, List.length_append, HL.out]; rfl
        rw [hrow] at ho5
        have ho6 := ho5
        rw [hlen2] at ho6
        have hR5 := R_fresh ho6
        obtain ⟨A5, c5, e5⟩ := Kd.R_slice hR5
        subst e5
        have hb5 : Below wr.heap.size wr w5 := ((below_alloc (Below.refl wr.heap.size wr) _).grown hg5 (by simp) (fun k e => by cases e))
        have HB5 := Aside0.mk hb5
        have hrun := HIH.out x A5 c5 w5 hlt (Nat.le_trans HB.out (Nat.le_trans HBW.out.size hb5.size)) (Kd.R_lower hR5 (by simp only [World.size_alloc]; have := HB.out; have := HBW.out.size; show base ≤ wr.heap.size + 1; omega))
        rw [← hlen2] at hrun ⊢
        have HRUN := Aside0.mk hrun
        clear hrow hlen2 ho5 ho6 hR5 hb5 hg5 hrun hsz
        go_wp2_with fail
        refine HRUN.out.mono ?_
        rintro e w6 ⟨v6, vs6, rfl, ho6, ha6, hb6⟩
        have hne6 : 0 < vs6.length := by
          rw [ha6.length]
          exact List.length_pos_iff.2 (alN_ne9 r x _ hlt9)
        obtain ⟨g6, c6, e6, hc6⟩ := own_some ho6 hne6
        subst e6
        have HA6 := Aside0.mk ha6
        have HC6 := Aside0.mk hc6
        have HBL := Aside0.mk (HB5.out.trans (hb6.mono HB5.out.size))
        have HO6 := Aside0.mk (own_move HO.out (fun k hk => HBL.out.block k (own_lt HO.out k hk)))
        have HN1 := Aside0.mk (alTo_len (n := n) (r := r) (f := f) (m := i + 1) (cur := cur) (by have := HXI.out; omega) hn (by have := HCK.out; omega))
        have HN2 : Aside0 (vs.length + vs6.length ≤ 1728) := ⟨by
          have h1 := HN1.out
          rw [HS.out, List.length_append] at h1
          rw [HA.out.length, ha6.length]; exact h1⟩
        clear ho6 ha6 hb6 hc6 hne6 HN1
        go_wp2_with (((with_reducible refine gate_builtin (b := .append) (xs := #[.tmp 31, .tmp 43]) rfl ?_); at_builtin; refine wpList_append_own _ rfl _ _ 43 rfl W.heap.size 22 i1 (.slice none 0 0) 1 24 Try.underlying43 HI1.out HZ.out.2.2.2.1 HZ.out.2.2.2.2.1 HZ.out.2.2.2.2.2 rfl (by decide) _ vs.length vs rfl HO6.out ⟨g6, 0, none⟩ vs6.length c6 vs6 rfl (Nat.mul_one _).symm HC6.out HA6.out.one ?c5 ?c6 ?c7 ?_; (case c5 => simp only [maxLen]; have := HN2.out; omega); (case c6 => have := HN2.out; omega); (case c7 => exact Nat.le_trans HBW.out.size HBL.out.size); intro v7 w7 ho7 hg7 _))
        go_roundg (gk - 1)
        case measure => have := HX.out; omega
        case rel =>
          refine ⟨x + 1, i + 1, v7, vs ++ vs6, by go_num, by have := HXI.out; omega, rfl, ⟨by have := HX.out; omega⟩, ⟨by rw [List.length_append]; exact ho7⟩, ⟨?_⟩, ⟨((HBW.out.trans (HBL.out.mono HBW.out.size))).grown hg7 (Nat.le_trans HBW.out.size HBL.out.size) (fun k hk => own_base HO6.out k hk)⟩⟩
          rw [HS.out]
          exact ((HA.out.below HBL.out).append HA6.out).over (fun k hk => own_typed HO6.out k hk) hg7
      · have hxk : x = n := by have := HX.out; omega
        have hi9 : i = n - f := by have := HXI.out; omega
        have HI9 := Aside0.mk hi9
        have HXK := Aside0.mk hxk
        clear hxk hi9
        have hltz : ¬ (x : Int) < (n : Int) := by omega
        go_wp2
        go_ret
        have ha := HA.out
        rw [HI9.out] at ha
        exact ⟨_, vs, rfl, HO.out, ha, HBW.out⟩
theorem refAlls_calls (n k : Nat) (hn : n ≤ 12) (hn0 : 0 < n) (hk : k ≤ 3) (base : Nat) : ∀ (r : Nat) (A : Option Addr) (c : Nat) (cur : List Nat) (W : World), cur.length + r = k → lastF cur ≤ n → base ≤ W.heap.size → Kd.R (Kd.int .i64) 3 W base (fun _ => True) (.slice A (nums cur).length c) (nums cur) →
    Calls Try.prog 48 #[.int .i64 (n : Int), .int .i64 (k : Int), .slice A (nums cur).length c] W (LeadsPost base W (alN n r (lastF cur) cur)) := by
  intro r
  induction r with
  | zero => intro A c cur W hc _ _ hR; exact alls_end (n : Int) k base A c cur W (by omega) hR
  | succ r ih =>
    intro A c cur W hc hf hb hR
    exact alls_more n k hn hk r base A c cur W hc hf hb hR (fun x A c W hx hb hR => by
      have := ih A c (cur ++ [x]) W (by rw [List.length_append, List.length_singleton]; omega) (by rw [lastF_snoc]; omega) hb hR
      rw [lastF_snoc] at this; exact this)

end Go.Proofs.Ytdnjbjcfbdclfaa.P
namespace Go.Proofs.Ytdnjbjcfbdclfaa.P
open Go.RowKit Go.Proofs.YtdnjbjcfbdclfaaW.PrintWords Go.Proofs.YtdnjbjcfbdclfaaW.PrintLast Go.Proofs.YtdnjbjcfbdclfaaW.PrintMore
attribute [local go_sem] max2_int min2_int max_two min_two max_three min_three max_four min_four   -- for this text's walks alone
set_option linter.unusedVariables false
set_option linter.unusedSimpArgs false

/-! ### sackbutref06_mod: function 38 -/
def sackbutref06_mod.f (a0 : Int) (a1 : Int) : Option (Int) := if a1 = 0 then (none) else (some (Int.tmod (wrap64 ((Int.tmod a0 a1) + a1)) a1))
set_option maxHeartbeats 8000000 in
set_option maxRecDepth 100000 in
theorem sackbutref06_mod.calls (a0 : Int) (a1 : Int) (r : Int) (w : World) (h : sackbutref06_mod.f a0 a1 = some r) :
    Calls Try.prog 38 #[.int .i64 a0, .int .i64 a1] w fun e w' => e = .returned (.int .i64 r) ∧ Drawn0 w w' := by
  have H : (if a1 = 0 then (none) else (some (Int.tmod (wrap64 ((Int.tmod a0 a1) + a1)) a1))) = some r := h
  clear h
  by_cases c3 : a1 = 0
  · rw [if_pos c3] at H
    exact absurd H (by simp)
  · rw [if_neg c3] at H
    have c3b0 : (a1 == 0) = false := beq_eq_false_iff_ne.mpr c3
    have c3b1 : (a1 != 0) = true := bne_iff_ne.mpr c3
    obtain rfl := Option.some.inj H
    go_enter Try.func38, Try.ntmps38
    go_wp2
    go_ret
    exact ⟨by first | rfl | (simp; done) | (simp [*]; done), by repeat (first | exact Drawn0.refl _ | apply Drawn0.step)⟩

end Go.Proofs.Ytdnjbjcfbdclfaa.P
namespace Go.Proofs.Ytdnjbjcfbdclfaa.P
open Go.RowKit Go.Proofs.YtdnjbjcfbdclfaaW.PrintWords Go.Proofs.YtdnjbjcfbdclfaaW.PrintLast Go.Proofs.YtdnjbjcfbdclfaaW.PrintMore
attribute [local go_sem] max2_int min2_int max_two min_two max_three min_three max_four min_four   -- for this text's walks alone
set_option linter.unusedVariables false
set_option linter.unusedSimpArgs false

/-! ### sackbutref06_Move: function 45 -/
def sackbutref06_Move.f (a0 : Int) (a1 : Int) (a2 : Int) : Option (Int) := (sackbutref06_mod.f (wrap64 (a2 - a1)) a0).bind fun t1001 => (if (wrap64 (2 * t1001)) ≤ a0 then (some t1001) else (some (wrap64 (t1001 - a0))))
set_option maxHeartbeats 8000000 in
set_option maxRecDepth 100000 in
theorem sackbutref06_Move.calls (a0 : Int) (a1 : Int) (a2 : Int) (r : Int) (w : World) (h : sackbutref06_Move.f a0 a1 a2 = some r) :
    Calls Try.prog 45 #[.int .i64 a0, .int .i64 a1, .int .i64 a2] w fun e w' => e = .returned (.int .i64 r) ∧ Drawn0 w w' := by
  have H : ((sackbutref06_mod.f (wrap64 (a2 - a1)) a0).bind fun t1001 => (if (wrap64 (2 * t1001)) ≤ a0 then (some t1001) else (some (wrap64 (t1001 - a0))))) = some r := h
  clear h
  replace H := Option.bind_eq_some_iff.mp H
  obtain ⟨t1001, A40, H⟩ := H
  replace H : (if (wrap64 (2 * t1001)) ≤ a0 then (some t1001) else (some (wrap64 (t1001 - a0)))) = some r := H
  have A4 := Aside0.mk A40
  clear A40
  by_cases c5 : (wrap64 (2 * t1001)) ≤ a0
  · rw [if_pos c5] at H
    have c5b0 : decide ((wrap64 (2 * t1001)) ≤ a0) = true := decide_eq_true c5
    clear c5
    obtain rfl := Option.some.inj H
    go_enter Try.func45, Try.ntmps45
    go_wp2_with (first | ((with_reducible refine gate_callee (f := 38) rfl ?_); refine goesL_ (some 12) rfl rfl Try.func38 (by kernel_rfl) rfl #[.int .i64 (wrap64 (a2 - a1)), .int .i64 a0] rfl (by (try simp only [List.map_toArray, List.map_cons, List.map_nil]); first | done | rfl | (simp only [List.length_drop, List.length_take]; rfl)) ?_; (with_reducible refine (sackbutref06_mod.calls (wrap64 (a2 - a1)) a0 t1001 _ A4.out).mono ?_); rintro e w' ⟨rfl, ⟨nd, rfl⟩⟩; refine ⟨_, rfl, ?_⟩))
    go_ret
    exact ⟨by first | rfl | (simp; done) | (simp [*]; done), by repeat (first | exact Drawn0.refl _ | apply Drawn0.step)⟩
  · rw [if_neg c5] at H
    have c5b0 : decide ((wrap64 (2 * t1001)) ≤ a0) = false := decide_eq_false c5
    clear c5
    obtain rfl := Option.some.inj H
    go_enter Try.func45, Try.ntmps45
    go_wp2_with (first | ((with_reducible refine gate_callee (f := 38) rfl ?_); refine goesL_ (some 12) rfl rfl Try.func38 (by kernel_rfl) rfl #[.int .i64 (wrap64 (a2 - a1)), .int .i64 a0] rfl (by (try simp only [List.map_toArray, List.map_cons, List.map_nil]); first | done | rfl | (simp only [List.length_drop, List.length_take]; rfl)) ?_; (with_reducible refine (sackbutref06_mod.calls (wrap64 (a2 - a1)) a0 t1001 _ A4.out).mono ?_); rintro e w' ⟨rfl, ⟨nd, rfl⟩⟩; refine ⟨_, rfl, ?_⟩))
    go_ret
    exact ⟨by first | rfl | (simp; done) | (simp [*]; done), by repeat (first | exact Drawn0.refl _ | apply Drawn0.step)⟩

end Go.Proofs.Ytdnjbjcfbdclfaa.P
namespace Go.Proofs.Ytdnjbjcfbdclfaa.P
open Go.RowKit Go.Proofs.YtdnjbjcfbdclfaaW.PrintWords Go.Proofs.YtdnjbjcfbdclfaaW.PrintLast Go.Proofs.YtdnjbjcfbdclfaaW.PrintMore
attribute [local go_sem] max2_int min2_int max_two min_two max_three min_three max_four min_four   -- for this text's walks alone
set_option linter.unusedVariables false
set_option linter.unusedSimpArgs false

/-! ### sackbutref06_Distance: function 44 -/
def sackbutref06_Distance.f (a0 : Int) (a1 : Int) (a2 : Int) : Option (Int) := (sackbutref06_Move.f a0 a1 a2).bind fun t1001 => ((sackbutref06_Move.f a0 a1 a2).bind fun t1002 => (some (mx t1001 (wrap64 (-t1002)))))
set_option maxHeartbeats 8000000 in
set_option maxRecDepth 100000 in
theorem sackbutref06_Distance.calls (a0 : Int) (a1 : Int) (a2 : Int) (r : Int) (w : World) (h : sackbutref06_Distance.f a0 a1 a2 = some r) :
    Calls Try.prog 44 #[.int .i64 a0, .int .i64 a1, .int .i64 a2] w fun e w' => e = .returned (.int .i64 r) ∧ Below w.heap.size w w' := by
  have HB := Aside0.mk (Below.refl w.heap.size w)
  have H : ((sackbutref06_Move.f a0 a1 a2).bind fun t1001 => ((sackbutref06_Move.f a0 a1 a2).bind fun t1002 => (some (mx t1001 (wrap64 (-t1002)))))) = some r := h
  clear h
  replace H := Option.bind_eq_some_iff.mp H
  obtain ⟨t1001, A40, H⟩ := H
  replace H : ((sackbutref06_Move.f a0 a1 a2).bind fun t1002 => (some (mx t1001 (wrap64 (-t1002))))) = some r := H
  have A4 := Aside0.mk A40
  clear A40
  replace H := Option.bind_eq_some_iff.mp H
  obtain ⟨t1002, A50, H⟩ := H
  replace H : (some (mx t1001 (wrap64 (-t1002)))) = some r := H
  have A5 := Aside0.mk A50
  clear A50
  obtain ⟨ji6, hji6⟩ : ∃ j_ : Int, (mx t1001 (wrap64 (-t1002))) = j_ := ⟨_, rfl⟩
  replace H : (some ji6) = some r := by first | (rw [hji6] at H; exact H) | (simp only [hji6] at H ⊢; exact H)
  (try rw [hji6] at A4)
  (try rw [hji6] at A5)
  have hji6_ : (if t1001 < (wrap64 (-t1002)) then (wrap64 (-t1002)) else t1001) = ji6 := hji6
  obtain rfl := Option.some.inj H
  go_enter Try.func44, Try.ntmps44
  go_wp2_with (first | ((with_reducible refine gate_callee (f := 45) rfl ?_); refine goesL_ (some 10) rfl rfl Try.func45 (by kernel_rfl) rfl #[.int .i64 a0, .int .i64 a1, .int .i64 a2] rfl (by (try simp only [List.map_toArray, List.map_cons, List.map_nil]); first | done | rfl | (simp only [List.length_drop, List.length_take]; rfl)) ?_; (with_reducible refine (sackbutref06_Move.calls a0 a1 a2 t1001 _ A4.out).mono ?_); rintro e w' ⟨rfl, ⟨nd, rfl⟩⟩; refine ⟨_, rfl, ?_⟩) | ((with_reducible refine gate_callee (f := 45) rfl ?_); refine goesL_ (some 14) rfl rfl Try.func45 (by kernel_rfl) rfl #[.int .i64 a0, .int .i64 a1, .int .i64 a2] rfl (by (try simp only [List.map_toArray, List.map_cons, List.map_nil]); first | done | rfl | (simp only [List.length_drop, List.length_take]; rfl)) ?_; (with_reducible refine (sackbutref06_Move.calls a0 a1 a2 t1002 _ A5.out).mono ?_); rintro e w' ⟨rfl, ⟨nd, rfl⟩⟩; refine ⟨_, rfl, ?_⟩))
  go_ret
  exact ⟨by first | rfl | (simp [errW_none, errW_some] <;> rfl) | (simp only [← hji6]; first | rfl | (simp [errW_none, errW_some] <;> rfl)) | (simp [*, errW_none, errW_some] <;> rfl), by repeat (first | (with_reducible first | exact HB.out | apply below_alloc | apply pw_below_drewN | apply below_drew1) | exact HB.out)⟩

end Go.Proofs.Ytdnjbjcfbdclfaa.P
namespace Go.Proofs.Ytdnjbjcfbdclfaa.P
open Go.RowKit Go.Proofs.YtdnjbjcfbdclfaaW.PrintWords Go.Proofs.YtdnjbjcfbdclfaaW.PrintLast Go.Proofs.YtdnjbjcfbdclfaaW.PrintMore
attribute [local go_sem] max2_int min2_int max_two min_two max_three min_three max_four min_four   -- for this text's walks alone
set_option linter.unusedVariables false
set_option linter.unusedSimpArgs false

/-! ### sackbutref06_Price: function 27 -/
def sackbutref06_Price.l0 : Nat → Int → List Int → List Int → Int → List Int → Int → Int → Option (Int)
  | 0, _, _, _, _, _, _, _ => none
  | k + 1, x0, x1, x2, x9, x12, x13, x14 => if x14 < x13 then (if 0 ≤ x14 then (if x14 < (x12.length : Int) then (if x14 < (x1.length : Int) then (if 0 ≤ (rd x12 x14) then (if (rd x12 x14) < (x2.length : Int) then ((sackbutref06_Distance.f x0 (rd x1 x14) (rd x2 (rd x12 x14))).bind fun t1004 => (sackbutref06_Price.l0 k x0 x1 x2 (wrap64 (x9 + t1004)) x12 x13 (wrap64 (x14 + 1)))) else (none)) else (none)) else (none)) else (none)) else (none)) else (some x9)
def sackbutref06_Price.f (k : Nat) (a0 : Int) (l1 : List Int) (l2 : List Int) (l3 : List Int) : Option (Int) := sackbutref06_Price.l0 k a0 l1 l2 0 l3 (l3.length : Int) 0
theorem sackbutref06_Price.mono_l : ∀ k, (∀ y0 y1 y2 y3 y4 y5 y6, LeO (sackbutref06_Price.l0 k y0 y1 y2 y3 y4 y5 y6) (sackbutref06_Price.l0 (k + 1) y0 y1 y2 y3 y4 y5 y6))
  | 0 => fun _ _ _ _ _ _ _ r h => by simp [sackbutref06_Price.l0] at h
  | k + 1 => by
    have ih0 := sackbutref06_Price.mono_l k
    · intro y0 y1 y2 y3 y4 y5 y6
      unfold sackbutref06_Price.l0
      repeat' first
      | (with_reducible exact ih0 _ _ _ _ _ _ _)
      | (with_reducible exact LeO.refl _)
      | (with_reducible exact LeO.none _)
      | (with_reducible refine LeO.ite ?_ ?_)
      | (with_reducible refine LeO.bind ?_ (fun _ => ?_))
      | exact ih0 _ _ _ _ _ _ _
      | exact LeO.none _
      | refine LeO.ite ?_ ?_
      | refine LeO.bind ?_ (fun _ => ?_)
theorem sackbutref06_Price.mono : ∀ a0 a1 a2 a3 k, LeO (sackbutref06_Price.f k a0 a1 a2 a3) (sackbutref06_Price.f (k + 1) a0 a1 a2 a3) := by
  intro a0 a1 a2 a3 k
  have ih0 := sackbutref06_Price.mono_l k
  unfold sackbutref06_Price.f
  repeat' first
      | (with_reducible exact ih0 _ _ _ _ _ _ _)
      | (with_reducible exact LeO.refl _)
      | (with_reducible exact LeO.none _)
      | (with_reducible refine LeO.ite ?_ ?_)
      | (with_reducible refine LeO.bind ?_ (fun _ => ?_))
      | exact ih0 _ _ _ _ _ _ _
      | exact LeO.none _
      | refine LeO.ite ?_ ?_
      | refine LeO.bind ?_ (fun _ => ?_)
def sackbutref06_Price.T5 : Bool × List (List Nat × List Nat) := (true, [([], []), ([], []), ([], []), ([], []), ([2, 3], [2, 3]), ([4], [4]), ([], []), ([], []), ([6, 7], [6, 7]), ([8], [8]), ([1, 5, 9], [1, 5, 9]), ([0, 10], [0, 10]), ([11, 10, 0, 1, 2, 3, 4, 5, 6, 7, 8, 9, 10, 11], [0, 11])])
def sackbutref06_Price.B5 : List Nat := [0, 0, 0, 0, 12, 28, 0, 0, 192, 448, 1022, 2047, 4095]
theorem sackbutref06_Price.tab5 : rtab .any (opsOf Try.f27 5) = sackbutref06_Price.T5 := by kernel_rfl
theorem sackbutref06_Price.bits5 : waitsOk sackbutref06_Price.T5.2 sackbutref06_Price.B5 = true := by kernel_rfl
set_option maxHeartbeats 8000000 in
set_option maxRecDepth 100000 in
theorem sackbutref06_Price.calls (k : Nat) (a0 : Int) (A1 : Option Addr) (c1 : Nat) (l1 : List Int) (A2 : Option Addr) (c2 : Nat) (l2 : List Int) (A3 : Option Addr) (c3 : Nat) (l3 : List Int) (r : Int) (w : World) (hr1 : Kd.C (Kd.int .i64) w A1 l1.length l1) (hc1 : l1.length ≤ c1) (hr2 : Kd.C (Kd.int .i64) w A2 l2.length l2) (hc2 : l2.length ≤ c2) (hr3 : Kd.C (Kd.int .i64) w A3 l3.length l3) (hc3 : l3.length ≤ c3) (h : sackbutref06_Price.f k a0 l1 l2 l3 = some r) :
    Calls Try.prog 27 #[.int .i64 a0, .slice A1 l1.length c1, .slice A2 l2.length c2, .slice A3 l3.length c3] w fun e w' => e = .returned (.int .i64 r) ∧ Below w.heap.size w w' := by
  have HR1 := Aside0.mk hr1
  have HC1 := Aside0.mk hc1
  clear hr1 hc1
  have HR2 := Aside0.mk hr2
  have HC2 := Aside0.mk hc2
  clear hr2 hc2
  have HR3 := Aside0.mk hr3
  have HC3 := Aside0.mk hc3
  clear hr3 hc3
  have HB := Aside0.mk (Below.refl w.heap.size w)
  have H : (sackbutref06_Price.l0 k a0 l1 l2 0 l3 (l3.length : Int) 0) = some r := h
  clear h
  have H' := Aside0.mk H
  clear H
  go_enter Try.func27, Try.ntmps27
  go_wp2
  go_loopg [9, 14] k (fun kq v9 v14 w' => ∃ (x9_1 : Int) (x14_1 : Int), v9 = .int .i64 x9_1 ∧ v14 = .int .i64 x14_1 ∧ Aside0 (sackbutref06_Price.l0 kq a0 l1 l2 x9_1 l3 (l3.length : Int) x14_1 = some r) ∧ Aside0 (kq ≤ k) ∧ Aside0 (Below w.heap.size w w'))
  case atStart => exact ⟨(0), (0), (by first | rfl | (simp; done) | (simp [*]; done)), (by first | rfl | (simp; done) | (simp [*]; done)), H', ⟨Nat.le_refl _⟩, ⟨by repeat (first | (with_reducible first | exact HB.out | apply below_alloc | apply pw_below_drewN | apply below_drew1) | exact HB.out)⟩⟩
  case round =>
    clear H'
    try clear c1
    try clear c2
    try clear p2
    try clear c3
    obtain ⟨x9_1, x14_1, rfl, rfl, HA, HK1, HB⟩ := hrel
    cases gk with
    | zero => exact absurd HA.out (by simp [sackbutref06_Price.l0])
    | succ k1 =>
      have H := HA.out
      clear HA
      simp only [sackbutref06_Price.l0] at H
      by_cases c5 : x14_1 < (l3.length : Int)
      · rw [if_pos c5] at H
        have c5b0 : decide (x14_1 < (l3.length : Int)) = true := decide_eq_true c5
        clear c5
        by_cases c6 : 0 ≤ x14_1
        · rw [if_pos c6] at H
          have c6b0 : decide (0 ≤ x14_1) = true := decide_eq_true c6
          clear c6
          by_cases c7 : x14_1 < (l3.length : Int)
          · rw [if_pos c7] at H
            have c7b0 : decide (x14_1 < (l3.length : Int)) = true := decide_eq_true c7
            clear c7
            by_cases c8 : x14_1 < (l1.length : Int)
            · rw [if_pos c8] at H
              have c8b0 : decide (x14_1 < (l1.length : Int)) = true := decide_eq_true c8
              clear c8
              by_cases c9 : 0 ≤ (rd l3 x14_1)
              · rw [if_pos c9] at H
                have c9b0 : decide (0 ≤ (rd l3 x14_1)) = true := decide_eq_true c9
                clear c9
                by_cases c10 : (rd l3 x14_1) < (l2.length : Int)
                · rw [if_pos c10] at H
                  have c10b0 : decide ((rd l3 x14_1) < (l2.length : Int)) = true := decide_eq_true c10
                  clear c10
                  replace H := Option.bind_eq_some_iff.mp H
                  obtain ⟨t1004, A110, H⟩ := H
                  replace H : (sackbutref06_Price.l0 k1 a0 l1 l2 (wrap64 (x9_1 + t1004)) l3 (l3.length : Int) (wrap64 (x14_1 + 1))) = some r := H
                  have A11 := Aside0.mk A110
                  clear A110
                  have H' := Aside0.mk H
                  clear H
                  have p1001 : 0 ≤ (x14_1 : Int) := of_decide_eq_true (by first | (with_reducible assumption) | assumption)
                  have q1001 : x14_1 < (l3.length : Int) := of_decide_eq_true (by first | (with_reducible assumption) | assumption)
                  obtain ⟨ad1001, e1001, hx1001_0⟩ := Kd.at_int HR3.out x14_1 p1001 q1001
                  cases e1001
                  replace hx1001_0 := (HB.out.cell (World.block_lt_of_cell? w _ hx1001_0)).trans hx1001_0
                  replace p1001 := eq_true p1001
                  replace q1001 := eq_true q1001
                  try go_wp2
                  have n0_ := Aside0.mk (below_drew1 HB.out)
                  clear HB
                  have HB := n0_
                  clear n0_
                  have p1002 : 0 ≤ (x14_1 : Int) := of_decide_eq_true (by first | (with_reducible assumption) | assumption)
                  have q1002 : x14_1 < (l1.length : Int) := of_decide_eq_true (by first | (with_reducible assumption) | assumption)
                  obtain ⟨ad1002, e1002, hx1002_0⟩ := Kd.at_int HR1.out x14_1 p1002 q1002
                  have hw1002_0 := hx1002_0
                  cases e1002
                  replace hx1002_0 := (HB.out.cell (World.block_lt_of_cell? w _ hx1002_0)).trans hx1002_0
                  replace p1002 := eq_true p1002
                  replace q1002 := eq_true q1002
                  have p1003 : 0 ≤ ((rd l3 x14_1) : Int) := of_decide_eq_true (by first | (with_reducible assumption) | assumption)
                  have q1003 : (rd l3 x14_1) < (l2.length : Int) := of_decide_eq_true (by first | (with_reducible assumption) | assumption)
                  obtain ⟨ad1003, e1003, hx1003_0⟩ := Kd.at_int HR2.out (rd l3 x14_1) p1003 q1003
                  have hw1003_0 := hx1003_0
                  cases e1003
                  replace hx1003_0 := (HB.out.cell (World.block_lt_of_cell? w _ hx1003_0)).trans hx1003_0
                  replace p1003 := eq_true p1003
                  replace q1003 := eq_true q1003
                  refine start_ (n := 13) (S := fun w' => w'.cell? (ad1002.add (x14_1).toNat) = some (.int .i64 (rd l1 x14_1)) ∧ w'.cell? (ad1003.add ((rd l3 x14_1)).toNat) = some (.int .i64 (rd l2 (rd l3 x14_1)))) (ds := []) #[false, false, false, false, false, false, false, false, false, false, false, false, false] (by kernel_rfl) rfl rfl ⟨((HB.out.cell (World.block_lt_of_cell? w _ hw1002_0)).trans hw1002_0), ((HB.out.cell (World.block_lt_of_cell? w _ hw1003_0)).trans hw1003_0)⟩ (fun hHeld => ?_); refine with_tabW sackbutref06_Price.tab5 sackbutref06_Price.bits5 (fun HT_ HW_ => ?_)
                  generalize wr.drew = w12 at HB hx1002_0 hx1003_0 hHeld ⊢
                  refine pure_ (i := 0) (N := some 19) (v := ?_) (a' := ?_) #[true, false, false, false, false, false, false, false, false, false, false, false, false] rfl rfl (any_of HT_.out (by kernel_rfl)) (fun _ _ _ h => h) (Or.inl ⟨by rfl, ?_⟩) ?_ ?_
                  rotate_left
                  · intro w'
                    go_simp
                    with_reducible rfl
                  rotate_left
                  · simp only [Act.put, List.setIfInBounds_toArray, List.set_cons_zero, List.set_cons_succ, i64_w, i32_w]
                    rfl
                  refine pure_ (i := 1) (N := some 20) (v := ?_) (a' := ?_) #[true, true, false, false, false, false, false, false, false, false, false, false, false] rfl rfl (any_of HT_.out (by kernel_rfl)) (fun _ _ _ h => h) (Or.inl ⟨by rfl, ?_⟩) ?_ ?_
                  rotate_left
                  · intro w'
                    go_simp
                    with_reducible rfl
                  rotate_left
                  · simp only [Act.put, List.setIfInBounds_toArray, List.set_cons_zero, List.set_cons_succ, i64_w, i32_w]
                    rfl
                  refine pure_ (i := 2) (N := some 21) (v := ?_) (a' := ?_) #[true, true, true, false, false, false, false, false, false, false, false, false, false] rfl rfl (any_of HT_.out (by kernel_rfl)) (fun _ _ _ h => h) (Or.inl ⟨by rfl, ?_⟩) ?_ ?_
                  rotate_left
                  · intro w'
                    go_simp
                    with_reducible rfl
                  rotate_left
                  · simp only [Act.put, List.setIfInBounds_toArray, List.set_cons_zero, List.set_cons_succ, i64_w, i32_w]
                    rfl
                  refine pure_ (i := 3) (N := some 22) (v := ?_) (a' := ?_) #[true, true, true, true, false, false, false, false, false, false, false, false, false] rfl rfl (any_of HT_.out (by kernel_rfl)) (fun _ _ _ h => h) (Or.inl ⟨by rfl, ?_⟩) ?_ ?_
                  rotate_left
                  · intro w'
                    go_simp
                    with_reducible rfl
                  rotate_left
                  · simp only [Act.put, List.setIfInBounds_toArray, List.set_cons_zero, List.set_cons_succ, i64_w, i32_w]
                    rfl
                  refine pure_ (i := 4) (N := some 23) (v := ?_) (a' := ?_) #[true, true, true, true, true, false, false, false, false, false, false, false, false] rfl rfl (any_of HT_.out (by kernel_rfl)) (fun _ _ _ h => h) (Or.inl ⟨by rfl, ?_⟩) ?_ ?_
                  rotate_left
                  · intro w'
                    go_simp
                    with_reducible rfl
                  rotate_left
                  · simp only [Act.put, List.setIfInBounds_toArray, List.set_cons_zero, List.set_cons_succ, i64_w, i32_w]
                    rfl
                  refine pure_ (i := 6) (N := some 25) (v := ?_) (a' := ?_) #[true, true, true, true, true, false, true, false, false, false, false, false, false] rfl rfl (any_of HT_.out (by kernel_rfl)) (fun _ _ _ h => h) (Or.inl ⟨by rfl, ?_⟩) ?_ ?_
                  rotate_left
                  · intro w'
                    go_simp
                    with_reducible rfl
                  rotate_left
                  · simp only [Act.put, List.setIfInBounds_toArray, List.set_cons_zero, List.set_cons_succ, i64_w, i32_w]
                    rfl
                  refine pure_ (i := 7) (N := some 26) (v := ?_) (a' := ?_) #[true, true, true, true, true, false, true, true, false, false, false, false, false] rfl rfl (any_of HT_.out (by kernel_rfl)) (fun _ _ _ h => h) (Or.inl ⟨by rfl, ?_⟩) ?_ ?_
                  rotate_left
                  · intro w'
                    go_simp
                    with_reducible rfl
                  rotate_left
                  · simp only [Act.put, List.setIfInBounds_toArray, List.set_cons_zero, List.set_cons_succ, i64_w, i32_w]
                    rfl
                  refine pure_ (i := 8) (N := some 27) (v := ?_) (a' := ?_) #[true, true, true, true, true, false, true, true, true, false, false, false, false] rfl rfl (any_of HT_.out (by kernel_rfl)) (fun _ _ _ h => h) (Or.inl ⟨by rfl, ?_⟩) ?_ ?_
                  rotate_left
                  · intro w'
                    go_simp
                    with_reducible rfl
                  rotate_left
                  · simp only [Act.put, List.setIfInBounds_toArray, List.set_cons_zero, List.set_cons_succ, i64_w, i32_w]
                    rfl
                  refine take_ (i := 5) (N := some 24) (v := ?_) (a' := ?_) #[true, true, true, true, true, true, true, true, true, false, false, false, false] rfl rfl (take_ofW HT_.out HW_.out (by kernel_rfl)) (fun _ _ _ h => h) (Or.inl ⟨by rfl, ?_⟩) hHeld ?_ ?_
                  rotate_left
                  · rintro w' ⟨s0, s1⟩
                    go_simp
                    with_reducible rfl
                  rotate_left
                  · simp only [Act.put, List.setIfInBounds_toArray, List.set_cons_zero, List.set_cons_succ, i64_w, i32_w]
                    rfl
                  refine take_ (i := 9) (N := some 28) (v := ?_) (a' := ?_) #[true, true, true, true, true, true, true, true, true, true, false, false, false] rfl rfl (take_ofW HT_.out HW_.out (by kernel_rfl)) (fun _ _ _ h => h) (Or.inl ⟨by rfl, ?_⟩) hHeld ?_ ?_
                  rotate_left
                  · rintro w' ⟨s0, s1⟩
                    go_simp
                    with_reducible rfl
                  rotate_left
                  · simp only [Act.put, List.setIfInBounds_toArray, List.set_cons_zero, List.set_cons_succ, i64_w, i32_w]
                    rfl
                  refine one_ (i := 10) (N := some 29) #[true, true, true, true, true, true, true, true, true, true, true, false, false] rfl rfl (one_of HT_.out (by kernel_rfl)) (by decide) (fun K hK => ?_)
                  refine goes_ Try.func44 (by kernel_rfl) rfl #[.int .i64 a0, .int .i64 (rd l1 x14_1), .int .i64 (rd l2 (rd l3 x14_1))] (by rfl) rfl rfl (by (try simp only [List.map_toArray, List.map_cons, List.map_nil]); first | done | rfl | (simp only [List.length_drop, List.length_take]; rfl)) ?_
                  with_reducible refine (sackbutref06_Distance.calls a0 (rd l1 x14_1) (rd l2 (rd l3 x14_1)) t1004 _ A11.out).mono ?_
                  rintro e w13 ⟨rfl, hb⟩
                  refine ⟨_, rfl, ?_⟩
                  have n0_ := Aside0.mk (below_step (by repeat (first | (with_reducible first | exact HB.out | apply below_alloc | apply pw_below_drewN | apply below_drew1) | exact HB.out)) hb)
                  clear HB
                  have HB := n0_
                  clear n0_
                  (try clear hb)
                  (try clear hb2)
                  (try clear hk)
                  (try clear hi)
                  refine hK.out _ _ ⟨((HB.out.cell (World.block_lt_of_cell? w _ hw1002_0)).trans hw1002_0), ((HB.out.cell (World.block_lt_of_cell? w _ hw1003_0)).trans hw1003_0)⟩ (fun hHeld => ?_)
                  clear hK K
                  refine norm_ (a' := ?_) ?_ ?_
                  rotate_left
                  · show Act.put _ (some 29) _ = _
                    simp only [Act.put, List.setIfInBounds_toArray, List.set_cons_zero, List.set_cons_succ, i64_w, i32_w]
                    rfl
                  refine pure_ (i := 11) (N := some 30) (v := ?_) (a' := ?_) #[true, true, true, true, true, true, true, true, true, true, true, true, false] rfl rfl (any_of HT_.out (by kernel_rfl)) (fun _ _ _ h => h) (Or.inl ⟨by rfl, ?_⟩) ?_ ?_
                  rotate_left
                  · intro w'
                    go_simp
                    with_reducible rfl
                  rotate_left
                  · simp only [Act.put, List.setIfInBounds_toArray, List.set_cons_zero, List.set_cons_succ, i64_w, i32_w]
                    rfl
                  refine pure_ (i := 12) (N := some 9) (v := ?_) (a' := ?_) #[true, true, true, true, true, true, true, true, true, true, true, true, true] rfl rfl (any_of HT_.out (by kernel_rfl)) (fun _ _ _ h => h) (Or.inl ⟨by rfl, ?_⟩) ?_ ?_
                  rotate_left
                  · intro w'
                    go_simp
                    with_reducible rfl
                  rotate_left
                  · simp only [Act.put, List.setIfInBounds_toArray, List.set_cons_zero, List.set_cons_succ, i64_w, i32_w]
                    rfl
                  refine done_ (done_of HT_.out (by kernel_rfl)) ?_
                  try go_wp2
                  go_roundg k1
                  case measure => have := HK1.out; omega
                  case rel => exact ⟨(wrap64 (x9_1 + t1004)), (wrap64 (x14_1 + 1)), (by first | rfl | (simp; done) | (simp [*]; done)), (by first | rfl | (simp; done) | (simp [*]; done)), H', ⟨by have := HK1.out; omega⟩, ⟨by repeat (first | (with_reducible first | exact HB.out | apply below_alloc | apply pw_below_drewN | apply below_drew1) | exact HB.out)⟩⟩
                · rw [if_neg c10] at H
                  exact absurd H (by simp)
              · rw [if_neg c9] at H
                exact absurd H (by simp)
            · rw [if_neg c8] at H
              exact absurd H (by simp)
          · rw [if_neg c7] at H
            exact absurd H (by simp)
        · rw [if_neg c6] at H
          exact absurd H (by simp)
      · rw [if_neg c5] at H
        have c5b0 : decide (x14_1 < (l3.length : Int)) = false := decide_eq_false c5
        clear c5
        obtain rfl := Option.some.inj H
        go_wp2
        go_ret
        exact ⟨by first | rfl | (simp [errW_none, errW_some] <;> rfl) | (simp [*, errW_none, errW_some] <;> rfl), by repeat (first | (with_reducible first | exact HB.out | apply below_alloc | apply pw_below_drewN | apply below_drew1) | exact HB.out)⟩

end Go.Proofs.Ytdnjbjcfbdclfaa.P
namespace Go.Proofs.Ytdnjbjcfbdclfaa.P
open Go.RowKit Go.Proofs.YtdnjbjcfbdclfaaW.PrintWords Go.Proofs.YtdnjbjcfbdclfaaW.PrintLast Go.Proofs.YtdnjbjcfbdclfaaW.PrintMore
attribute [local go_sem] max2_int min2_int max_two min_two max_three min_three max_four min_four   -- for this text's walks alone
set_option linter.unusedVariables false
set_option linter.unusedSimpArgs false

/-! voices.Cost -/
def voices_Cost.f (a0 : Int) (l1 l2 : List Int) : Option (Int × Int) := if TwoN a0 l1 l2 then some ((bestV a0 l1 l2).2, 0) else some (0, 2)
set_option maxHeartbeats 8000000 in
set_option maxRecDepth 100000 in
theorem voices_Cost.calls (a0 : Int) (A1 : Option Addr) (c1 : Nat) (l1 : List Int) (A2 : Option Addr) (c2 : Nat) (l2 : List Int) (r1 r2 : Int) (w : World) (hr1 : Kd.C (Kd.int .i64) w A1 l1.length l1) (hc1 : l1.length ≤ c1) (hr2 : Kd.C (Kd.int .i64) w A2 l2.length l2) (hc2 : l2.length ≤ c2) (h : voices_Cost.f a0 l1 l2 = some (r1, r2)) :
    Calls Try.prog 11 #[.int .i64 a0, .slice A1 l1.length c1, .slice A2 l2.length c2] w fun e w' => e = .returned (.tuple #[.int .i64 r1, .int .i64 r2]) ∧ Below w.heap.size w w' := by
  have HB := Aside0.mk (Below.refl w.heap.size w)
  have HO1 := Aside0.mk (Kd.V_mono (ok' := (fun k_ => ((k_ < w.heap.size ∨ k_ < w.heap.size) ∨ w.heap.size ≤ k_))) (V_of_C (e := 3) (base := w.heap.size) hr1 hc1) (fun _ hk => .inl (.inl hk)))
  have HO2 := Aside0.mk (Kd.V_mono (ok' := (fun k_ => ((k_ < w.heap.size ∨ k_ < w.heap.size) ∨ w.heap.size ≤ k_))) (V_of_C (e := 3) (base := w.heap.size) hr2 hc2) (fun _ hk => .inl (.inl hk)))
  have HR1 := Aside0.mk hr1
  have HR2 := Aside0.mk hr2
  have HC1 := Aside0.mk hc1
  have HC2 := Aside0.mk hc2
  unfold voices_Cost.f at h
  obtain ⟨k, hv⟩ := Ev.rounds (g := fun k => voices_circle_valid.f k a0 [l1, l2]) (valid2_ev a0 l1 l2)
  obtain ⟨y, hy⟩ : ∃ y : List (List Int), y = [l1, l2] := ⟨_, rfl⟩
  rw [← hy] at hv
  have HY := Aside0.mk hy
  clear hy hr1 hr2 hc1 hc2
  by_cases hc : TwoN a0 l1 l2
  · rw [decide_eq_true hc] at hv
    rw [if_pos hc] at h
    have HV := Aside0.mk hv
    have HT := Aside0.mk hc
    simp only [Option.some.injEq, Prod.mk.injEq] at h
    obtain ⟨hres, rfl⟩ := h
    have HRES := Aside0.mk hres
    clear hv hc hres
    go_enter Try.func11, Try.ntmps11
    go_wp2_with (first | ((with_reducible refine gate_dst (N := 13) rfl ?_); (try (refine gate_guard (by rfl) ?_; dsimp only)); refine Kd.N_lit (Kd.slice 3 (Kd.int .i64)) _ 22 ?hg (N' := 13) ?hd (xs := ([l1, l2] : List (List Int))) (inner := [.slice A1 l1.length c1, .slice A2 l2.length c2]) (ok := (fun k_ => ((k_ < w.heap.size ∨ k_ < w.heap.size) ∨ w.heap.size ≤ k_))) (okp := (fun k_ => ((k_ < w.heap.size ∨ k_ < w.heap.size) ∨ w.heap.size ≤ k_))) ?hr ?hp (fun _ hk => hk) ((show ∀ k_, w.heap.size ≤ k_ → (fun k_ => ((k_ < w.heap.size ∨ k_ < w.heap.size) ∨ w.heap.size ≤ k_)) k_ from fun k_ hk => (.inr (Nat.le_trans (below_size (by repeat (first | (with_reducible first | exact HB.out | apply below_alloc | apply pw_below_drewN | apply below_drew1) | exact HB.out))) hk))) _ (Nat.le_refl _)) (Below.refl _ _) (Nat.le_refl _) (by simp) ?_; (case hd => rfl); (case hg => rfl); (case hr => first | (go_simp; done) | (go_simp; rfl)); (case hp => exact (Reps.one (show Kd.FK (Kd.slice 3 (Kd.int .i64)) _ _ l1 [.slice A1 l1.length c1] from (Kd.FK_slice_mk (Kd.V_reads' (Kd.V_mono (ok' := (fun k_ => ((k_ < w.heap.size ∨ k_ < w.heap.size) ∨ w.heap.size ≤ k_))) (HO1.out) (fun k_ hk => hk))).2.1 (Kd.V_F (Kd.V_mono (ok' := (fun k_ => ((k_ < w.heap.size ∨ k_ < w.heap.size) ∨ w.heap.size ≤ k_))) (HO1.out) (fun k_ hk => hk))))) (Reps.one (show Kd.FK (Kd.slice 3 (Kd.int .i64)) _ _ l2 [.slice A2 l2.length c2] from (Kd.FK_slice_mk (Kd.V_reads' (Kd.V_mono (ok' := (fun k_ => ((k_ < w.heap.size ∨ k_ < w.heap.size) ∨ w.heap.size ≤ k_))) (HO2.out) (fun k_ hk => hk))).2.1 (Kd.V_F (Kd.V_mono (ok' := (fun k_ => ((k_ < w.heap.size ∨ k_ < w.heap.size) ∨ w.heap.size ≤ k_))) (HO2.out) (fun k_ hk => hk))))) (Reps.none _ _)))); intro v1002 w10 ho11 hb hg_ hnew_; clear hg_ hnew_; rw [← HY.out] at ho11; have n2_ := Aside0.mk (Kd.N_lower ho11 (below_size (by repeat (first | (with_reducible first | exact HB.out | apply below_alloc | apply pw_below_drewN | apply below_drew1) | exact HB.out)))); have n3_ := Aside0.mk (below_step (by repeat (first | (with_reducible first | exact HB.out | apply below_alloc | apply pw_below_drewN | apply below_drew1) | exact HB.out)) hb); clear HO1 HO2; clear HB; have HOV := n2_; have HB := n3_; clear n2_ n3_; clear hb ho11; obtain ⟨Ao12, co12, eo12⟩ := Kd.N_slice HOV.out; subst eo12) | ((with_reducible refine gate_callee (f := 34) rfl ?_); refine goesL_ (some 14) rfl rfl Try.func34 (by kernel_rfl) rfl #[.int .i64 a0, .slice Ao12 y.length co12] rfl (by (try simp only [List.map_toArray, List.map_cons, List.map_nil]); first | done | rfl) ?_; (with_reducible refine (voices_circle_valid.calls k a0 _ _ y true _ ?side1 ?side2 HV.out).mono ?_); (case side1 => repeat (first | exact (Kd.N_reads' HOV.out).2.2 | (with_reducible refine Kd.C_alloc ?_ _) | (with_reducible refine Kd.C_drewN ?_ _) | (with_reducible refine Kd.C_drew ?_))); (case side2 => exact (Kd.N_reads' HOV.out).2.1); rintro e w' ⟨rfl, ⟨nd, rfl⟩⟩; refine ⟨_, rfl, ?_⟩))
    go_wp2_with fail
    refine (best_two HT.out (Kd.C_below HR1.out (by repeat (first | (with_reducible first | exact HB.out | apply below_alloc | apply pw_below_drewN | apply below_drew1) | exact HB.out))) HC1.out (Kd.C_below HR2.out (by repeat (first | (with_reducible first | exact HB.out | apply below_alloc | apply pw_below_drewN | apply below_drew1) | exact HB.out))) HC2.out).mono ?_
    rintro e w12 ⟨A9, c9, rfl, hr9, hn9, hb9⟩
    have n0_ := Aside0.mk (below_step (by repeat (first | (with_reducible first | exact HB.out | apply below_alloc | apply pw_below_drewN | apply below_drew1) | exact HB.out)) hb9)
    have HR9 := Aside0.mk (Kd.R_lower hr9 (below_size (by repeat (first | (with_reducible first | exact HB.out | apply below_alloc | apply pw_below_drewN | apply below_drew1) | exact HB.out))))
    clear HB
    have HB := n0_
    clear n0_ hr9 hn9 hb9
    go_wp2
    go_ret2
    exact ⟨by rw [← HRES.out]; first | rfl | simp, HB.out⟩
  · rw [decide_eq_false hc] at hv
    rw [if_neg hc] at h
    have HV := Aside0.mk hv
    simp only [Option.some.injEq, Prod.mk.injEq] at h
    obtain ⟨rfl, rfl⟩ := h
    clear hv hc
    go_enter Try.func11, Try.ntmps11
    go_wp2_with (first | ((with_reducible refine gate_dst (N := 13) rfl ?_); (try (refine gate_guard (by rfl) ?_; dsimp only)); refine Kd.N_lit (Kd.slice 3 (Kd.int .i64)) _ 22 ?hg (N' := 13) ?hd (xs := ([l1, l2] : List (List Int))) (inner := [.slice A1 l1.length c1, .slice A2 l2.length c2]) (ok := (fun k_ => ((k_ < w.heap.size ∨ k_ < w.heap.size) ∨ w.heap.size ≤ k_))) (okp := (fun k_ => ((k_ < w.heap.size ∨ k_ < w.heap.size) ∨ w.heap.size ≤ k_))) ?hr ?hp (fun _ hk => hk) ((show ∀ k_, w.heap.size ≤ k_ → (fun k_ => ((k_ < w.heap.size ∨ k_ < w.heap.size) ∨ w.heap.size ≤ k_)) k_ from fun k_ hk => (.inr (Nat.le_trans (below_size (by repeat (first | (with_reducible first | exact HB.out | apply below_alloc | apply pw_below_drewN | apply below_drew1) | exact HB.out))) hk))) _ (Nat.le_refl _)) (Below.refl _ _) (Nat.le_refl _) (by simp) ?_; (case hd => rfl); (case hg => rfl); (case hr => first | (go_simp; done) | (go_simp; rfl)); (case hp => exact (Reps.one (show Kd.FK (Kd.slice 3 (Kd.int .i64)) _ _ l1 [.slice A1 l1.length c1] from (Kd.FK_slice_mk (Kd.V_reads' (Kd.V_mono (ok' := (fun k_ => ((k_ < w.heap.size ∨ k_ < w.heap.size) ∨ w.heap.size ≤ k_))) (HO1.out) (fun k_ hk => hk))).2.1 (Kd.V_F (Kd.V_mono (ok' := (fun k_ => ((k_ < w.heap.size ∨ k_ < w.heap.size) ∨ w.heap.size ≤ k_))) (HO1.out) (fun k_ hk => hk))))) (Reps.one (show Kd.FK (Kd.slice 3 (Kd.int .i64)) _ _ l2 [.slice A2 l2.length c2] from (Kd.FK_slice_mk (Kd.V_reads' (Kd.V_mono (ok' := (fun k_ => ((k_ < w.heap.size ∨ k_ < w.heap.size) ∨ w.heap.size ≤ k_))) (HO2.out) (fun k_ hk => hk))).2.1 (Kd.V_F (Kd.V_mono (ok' := (fun k_ => ((k_ < w.heap.size ∨ k_ < w.heap.size) ∨ w.heap.size ≤ k_))) (HO2.out) (fun k_ hk => hk))))) (Reps.none _ _)))); intro v1002 w10 ho11 hb hg_ hnew_; clear hg_ hnew_; rw [← HY.out] at ho11; have n2_ := Aside0.mk (Kd.N_lower ho11 (below_size (by repeat (first | (with_reducible first | exact HB.out | apply below_alloc | apply pw_below_drewN | apply below_drew1) | exact HB.out)))); have n3_ := Aside0.mk (below_step (by repeat (first | (with_reducible first | exact HB.out | apply below_alloc | apply pw_below_drewN | apply below_drew1) | exact HB.out)) hb); clear HO1 HO2; clear HB; have HOV := n2_; have HB := n3_; clear n2_ n3_; clear hb ho11; obtain ⟨Ao12, co12, eo12⟩ := Kd.N_slice HOV.out; subst eo12) | ((with_reducible refine gate_callee (f := 34) rfl ?_); refine goesL_ (some 14) rfl rfl Try.func34 (by kernel_rfl) rfl #[.int .i64 a0, .slice Ao12 y.length co12] rfl (by (try simp only [List.map_toArray, List.map_cons, List.map_nil]); first | done | rfl) ?_; (with_reducible refine (voices_circle_valid.calls k a0 _ _ y false _ ?side1 ?side2 HV.out).mono ?_); (case side1 => repeat (first | exact (Kd.N_reads' HOV.out).2.2 | (with_reducible refine Kd.C_alloc ?_ _) | (with_reducible refine Kd.C_drewN ?_ _) | (with_reducible refine Kd.C_drew ?_))); (case side2 => exact (Kd.N_reads' HOV.out).2.1); rintro e w' ⟨rfl, ⟨nd, rfl⟩⟩; refine ⟨_, rfl, ?_⟩))
    go_ret2
    exact ⟨by first | rfl | simp, (by repeat (first | (with_reducible first | exact HB.out | apply below_alloc | apply pw_below_drewN | apply below_drew1) | exact HB.out))⟩

end Go.Proofs.Ytdnjbjcfbdclfaa.P
