/- A part of a proof that a law's Go function returns true for every input, laid by this session's program mp.py (which drives the kit's print). Conditions: as each theorem states them. -/
import Derived.Sort.QuietThIn
import Derived.Sort.QuietTacIn
import Derived.RangeFuncCalls
import Derived.Shelf.Abstract
import Derived.Shelf.RegionOpen
import Derived.Shelf.AbstractIn
import Derived.Sort.QuietIn
import Derived.OwnWalkIn
import Derived.TacticsInMore
import Derived.LoopNIn
import Derived.LoopIn
import Derived.Test.YtnjmiodnkjabgaaDoorCChordsWays1
namespace Go.Proofs.YtnjmiodnkjabgaaDoor.P
/-! A region whose order is drawn, within a round of a range over a function: operations that leave the world alone but for draws, and one store behind all of them. -/
section
variable {F : Fence} {n : Nat} {P : Program} {ops : Array Oper} {st : Oper} {C : World → Prop}
theorem push_ready_lt {listed : Array Bool} {j : Nat} (hs : listed.size = ops.size) (hlt : ∀ (j : Nat) (o : Oper), ops[j]? = some o → ∀ e ∈ o.after, e.on < j) (hj : j < ops.size) :
    j ∈ Region.ready .any (ops.push st) (listed.push false) ↔ j ∈ Region.ready .any ops listed := by
  have g : ∀ (k : Nat) (d : Bool), k < ops.size → (listed.push false).getD k d = listed.getD k d := fun k d hk => by
    simp only [Array.getD_eq_getD_getElem?, Array.getElem?_push, hs, if_neg (show ¬ k = ops.size by omega)]
  have o0 : (ops.push st)[j]? = ops[j]? := by rw [Array.getElem?_push, if_neg (by omega)]
  rw [mem_ready, mem_ready, g j true hj, o0]
  constructor
  · rintro ⟨h0, o, ho, h⟩
    exact ⟨h0, o, ho, fun e he hb => by rw [← g e.on false (by have := hlt j o ho e he; omega)]; exact h e he hb⟩
  · rintro ⟨h0, o, ho, h⟩
    exact ⟨h0, o, ho, fun e he hb => by rw [g e.on false (by have := hlt j o ho e he; omega)]; exact h e he hb⟩
/-- where nothing may come up, all has come -/
theorem all_listed {listed : Array Bool} (hs : listed.size = ops.size) (hlt : ∀ (j : Nat) (o : Oper), ops[j]? = some o → ∀ e ∈ o.after, e.on < j) (h : Region.ready .any ops listed = []) :
    ∀ j, j < ops.size → listed.getD j false = true := by
  intro j
  induction j using Nat.strongRecOn with
  | _ j ih =>
    intro hj
    cases hv : listed.getD j false with
    | true => rfl
    | false =>
      obtain ⟨o, ho⟩ : ∃ o, ops[j]? = some o := ⟨ops[j], by simp [hj]⟩
      have : j ∈ Region.ready .any ops listed := by
        rw [mem_ready]
        refine ⟨?_, o, ho, fun e he _ => ih e.on (hlt j o ho e he) (by have := hlt j o ho e he; omega)⟩
        rw [Array.getD_eq_getD_getElem?] at hv ⊢
        rw [show listed[j]? = some listed[j] by simp [hs, hj]] at hv ⊢
        exact hv
      rw [h] at this
      cases this
theorem anyIn_nil {Q' : Exit → Act → World → Prop} {a : Act} {w : World} {os : Array Oper} {listed : Array Bool} (h : Region.ready .any os listed = []) (hq : Q' .normal a w) : ∀ fuel, wpAnyIn F n P .any os Q' fuel listed a w
  | 0 => ⟨h, hq⟩
  | fuel + 1 => ⟨fun _ => hq, fun i hi => by rw [h] at hi; cases hi⟩
theorem op_of_quiet {o : Oper} {a : Act} {K : Act → Prop} {K' : Act → World → Prop} {Q' : Exit → Act → World → Prop} {w : World} (hsem : ∀ ρ, o.semAt F.round ρ = execOp ρ o) (hw : C w) (h : ∀ a w', C w' → K a → K' a w')
    (ha : o.askedIn F P a C) (hh : o.quietIn F n P a C K) : o.wpIn F n P a w K' Q' := by
  obtain ⟨v, h1, h2⟩ := hh
  have h3 := h1 w hw
  unfold Oper.quietAtIn at h3
  unfold Oper.wpIn
  refine ⟨ha w hw, ?_⟩
  rw [hsem]
  generalize (execOp a.eval o).run P w = r at *
  cases r with
  | ok x w' =>
    cases x <;> simp only [Oper.quietUponIn] at h3 <;> simp only [Oper.uponIn]
    case value u =>
      obtain ⟨e1, e2⟩ := h3
      rw [e1, e2]
      exact h _ _ hw h2
    case skip =>
      obtain ⟨e1, e2⟩ := h3
      rw [e1, ← e2]
      exact h _ _ hw h2
    case enter f args =>
      obtain ⟨e1, hd, hc⟩ := h3
      rw [e1]
      exact ⟨hd, hc.mono fun e w'' ⟨he, hw''⟩ => by subst he; exact h _ _ hw'' h2⟩
  | halt x w' => simp only [Oper.quietUponIn] at h3
theorem any_store {Q0 : Act → Prop} {Q' : Exit → Act → World → Prop} (hlt : ∀ (j : Nat) (o : Oper), ops[j]? = some o → ∀ e ∈ o.after, e.on < j)
    (hsem : ∀ (j : Nat) (o : Oper), ops[j]? = some o → o.guard = none ∧ ∀ ρ, o.semAt F.round ρ = execOp ρ o) (hst : ∀ e ∈ st.after, e.on < ops.size) (hst2 : ∀ j, j < ops.size → ∃ e ∈ st.after, Region.binds .any e = true ∧ e.on = j) (hsg : st.guard = none)
    (hQ : ∀ a w, C w → Q0 a → st.wpIn F n P a w (Q' .normal) Q') : ∀ (fuel : Nat) (listed : Array Bool) (a : Act) (w : World), C w → listed.size = ops.size →
    wpAnyQIn F n P .any ops C Q0 fuel listed a → wpAnyIn F n P .any (ops.push st) Q' (fuel + 1) (listed.push false) a w := by
  have oM : (ops.push st)[ops.size]? = some st := by simp
  have last : ∀ (listed : Array Bool), listed.size = ops.size → (∀ j, j < ops.size → listed.getD j false = true) → ops.size ∈ Region.ready .any (ops.push st) (listed.push false) := fun listed hs h => by
    rw [mem_ready]
    refine ⟨by simp [Array.getD_eq_getD_getElem?, ← hs], st, oM, fun e he _ => ?_⟩
    have := h e.on (hst e he)
    rw [Array.getD_eq_getD_getElem?] at this ⊢
    rw [Array.getElem?_push, if_neg (by have := hst e he; omega)]
    exact this
  have wt : ∀ (o : Oper) y, o.guard = none → Region.wanted o y = true := fun o y h => by unfold Region.wanted; rw [h]
  have store : ∀ (fuel : Nat) (listed : Array Bool) (a : Act) (w : World), C w → listed.size = ops.size → (∀ j, j < ops.size → listed.getD j false = true) → Q0 a →
      wpOpIn F n P (ops.push st) Q' ops.size (wpAnyIn F n P .any (ops.push st) Q' fuel ((listed.push false).setIfInBounds ops.size true)) a w := fun fuel listed a w hw hs h hq => by
    unfold wpOpIn
    simp only [oM, wt st _ hsg, if_true]
    refine Oper.wpIn_mono (fun a' w' hq' => anyIn_nil ?_ hq' fuel) (hQ a w hw hq)
    rw [List.eq_nil_iff_forall_not_mem]
    intro j hj
    rw [mem_ready] at hj
    obtain ⟨h0, o, ho, _⟩ := hj
    have hjs : j < (ops.push st).size := (Array.getElem?_eq_some_iff.1 ho).1
    rw [Array.size_push] at hjs
    rcases Nat.lt_or_ge j ops.size with c | c
    · have := h j c
      rw [Array.getD_eq_getD_getElem?] at this h0
      rw [Array.getElem?_setIfInBounds, if_neg (by omega), Array.getElem?_push, if_neg (by omega)] at h0
      rw [show listed[j]? = some listed[j] by simp [hs, c]] at this h0
      simp only [Option.getD_some] at this h0
      rw [this] at h0; cases h0
    · obtain rfl : j = ops.size := by omega
      rw [Array.getD_eq_getD_getElem?, Array.getElem?_setIfInBounds, if_pos rfl, if_pos (by simp [hs])] at h0
      cases h0
  have nonempty : ∀ (listed : Array Bool), listed.size = ops.size → Region.ready .any (ops.push st) (listed.push false) = [] → False := fun listed hs h => by
    cases hr : Region.ready .any ops listed with
    | nil =>
      have := last listed hs (all_listed hs hlt hr)
      rw [h] at this; cases this
    | cons j js =>
      have hj : j ∈ Region.ready .any ops listed := by rw [hr]; simp
      have hjs : j < ops.size := by
        have := mem_ready.1 hj
        obtain ⟨_, o, ho, _⟩ := this
        exact (Array.getElem?_eq_some_iff.1 ho).1
      have := (push_ready_lt (st := st) hs hlt hjs).2 hj
      rw [h] at this; cases this
  intro fuel
  induction fuel with
  | zero =>
    intro listed a w hw hs h
    refine ⟨fun h0 => (nonempty listed hs h0).elim, fun i hi => ?_⟩
    have hall := all_listed hs hlt h.1
    have hi' := hi
    rw [mem_ready] at hi'
    obtain ⟨_, o, ho, _⟩ := hi'
    have his : i < (ops.push st).size := (Array.getElem?_eq_some_iff.1 ho).1
    rw [Array.size_push] at his
    rcases Nat.lt_or_ge i ops.size with c | c
    · have := (push_ready_lt (st := st) hs hlt c).1 hi
      rw [h.1] at this; cases this
    · obtain rfl : i = ops.size := by omega
      exact store 0 listed a w hw hs hall h.2
  | succ fuel ih =>
    intro listed a w hw hs h
    refine ⟨fun h0 => (nonempty listed hs h0).elim, fun i hi => ?_⟩
    have hi' := hi
    rw [mem_ready] at hi'
    obtain ⟨hun, o, ho, hal⟩ := hi'
    have his : i < (ops.push st).size := (Array.getElem?_eq_some_iff.1 ho).1
    rw [Array.size_push] at his
    rcases Nat.lt_or_ge i ops.size with c | c
    · have hr := (push_ready_lt (st := st) hs hlt c).1 hi
      have hq := h.2 i hr
      rw [Array.getElem?_push, if_neg (by omega)] at ho
      unfold qOpIn at hq
      simp only [ho] at hq
      obtain ⟨hask, hq⟩ := hq
      rw [wt o _ (hsem i o ho).1, if_pos rfl] at hq
      unfold wpOpIn
      simp only [show (ops.push st)[i]? = some o by rw [Array.getElem?_push, if_neg (by omega)]; exact ho, wt o _ (hsem i o ho).1, if_true]
      refine op_of_quiet (hsem i o ho).2 hw (fun a' w' hw' hk => ?_) hask hq
      have e : (listed.push false).setIfInBounds i true = (listed.setIfInBounds i true).push false := by
        apply Array.ext_getElem?
        intro k
        simp only [Array.getElem?_setIfInBounds, Array.getElem?_push, Array.size_push, Array.size_setIfInBounds, hs]
        by_cases h1 : i = k
        · subst h1
          rw [if_pos rfl, if_pos (by omega), if_neg (by omega), if_pos rfl, if_pos c]
        · rw [if_neg h1, if_neg h1]
      rw [e]
      exact ih _ _ _ hw' (by simp [hs]) hk
    · obtain rfl : i = ops.size := by omega
      obtain rfl : st = o := Option.some.inj (oM.symm.trans ho)
      have hall : ∀ j, j < ops.size → listed.getD j false = true := fun j hj => by
        obtain ⟨e, he, hb, rfl⟩ := hst2 j hj
        have := hal e he hb
        rw [Array.getD_eq_getD_getElem?] at this ⊢
        rw [Array.getElem?_push, if_neg (by omega)] at this
        exact this
      have hr0 : Region.ready .any ops listed = [] := by
        rw [List.eq_nil_iff_forall_not_mem]
        intro j hj
        obtain ⟨h0, o, ho, _⟩ := mem_ready.1 hj
        have hjs : j < ops.size := (Array.getElem?_eq_some_iff.1 ho).1
        have := hall j hjs
        rw [Array.getD_eq_getD_getElem?] at this h0
        rw [show listed[j]? = some listed[j] by simp [hs, hjs]] at this h0
        simp only [Option.getD_some] at this h0
        rw [this] at h0; cases h0
      exact store (fuel + 1) listed a w hw hs hall (h.1 hr0)
/-- **One walk of the text's order serves every order: quiet operations, then one store.** -/
theorem region_store {id : Nat} {Q : Exit → Act → World → Prop} {a : Act} {w : World} {l : List Oper} (hm : P.follows .mixedOrders = true) (hB : Region.lexB .any l.toArray = true)
    (hlt : ∀ (j : Nat) (o : Oper), l.toArray[j]? = some o → ∀ e ∈ o.after, e.on < j)
    (hsem : ∀ (j : Nat) (o : Oper), l.toArray[j]? = some o → o.guard = none ∧ ∀ ρ, o.semAt F.round ρ = execOp ρ o) (hst : ∀ e ∈ st.after, e.on < l.toArray.size) (hst2 : ∀ j, j < l.toArray.size → ∃ e ∈ st.after, Region.binds .any e = true ∧ e.on = j) (hsg : st.guard = none)
    (h : wpQuietIn F n P l.toArray (fun w' => ∃ n, w' = w.drewN n) (fun a' => ∀ w', (∃ n, w' = w.drewN n) → st.wpIn F n P a' w' (Q .normal) Q) l a) : (Code.region id (l.toArray.push st) true).wpIn F n P Q a w := by
  simp only [Region.lexB, Bool.and_eq_true] at hB
  refine wpIn_region_any hm ?_
  have h1 := wpAnyQIn_lex (F := F) (n := n) (P := P) (C := fun w' => ∃ n, w' = w.drewN n) (md := .any) hB.1 l 0 (Array.replicate l.toArray.size false) a (by simp) (by simpa using hB.2) h
  have h2 := any_store (F := F) (n := n) (P := P) (st := st) (Q' := Q) hlt hsem hst hst2 hsg (fun a w hw hq => hq w hw) l.length (Array.replicate l.toArray.size false) a { w with drawn := w.drawn + 1 } ⟨1, rfl⟩ (by simp) h1
  have e : Array.replicate (l.toArray.push st).size false = (Array.replicate l.toArray.size false).push false := by
    rw [Array.size_push, Array.replicate_succ]
  rw [e, Array.size_push]
  simpa using h2
/-- all that is asked of such a region's operations, as one question -/
def noDefer : Op → Bool
  | .defer _ => false
  | _ => true
def storeLast (l : List Oper) : Bool :=
  match l.getLast? with
  | none => false
  | some st => st.guard.isNone && st.after.all (fun e => decide (e.on < l.dropLast.length)) && (List.range l.dropLast.length).all (fun j => st.after.any (fun e => Region.binds .any e && e.on == j)) &&
    Region.lexB .any l.dropLast.toArray && (l.dropLast.zipIdx.all fun p => p.1.guard.isNone && p.1.after.all (fun e => decide (e.on < p.2)) && noDefer p.1.op)
theorem region_store_lit {id : Nat} {Q : Exit → Act → World → Prop} {a : Act} {w : World} {l : List Oper} (hm : P.follows .mixedOrders = true) (hB : storeLast l = true)
    (h : ∀ st, l.getLast? = some st → wpQuietIn F n P l.dropLast.toArray (fun w' => ∃ n, w' = w.drewN n) (fun a' => ∀ w', (∃ n, w' = w.drewN n) → st.wpIn F n P a' w' (Q .normal) Q) l.dropLast a) : (Code.region id l.toArray true).wpIn F n P Q a w := by
  unfold storeLast at hB
  cases hl : l.getLast? with
  | none => rw [hl] at hB; cases hB
  | some st =>
    rw [hl] at hB
    simp only [Bool.and_eq_true, Option.isNone_iff_eq_none] at hB
    obtain ⟨⟨⟨⟨h1, h2⟩, h3⟩, h4⟩, h5⟩ := hB
    have e : l.toArray = l.dropLast.toArray.push st := by
      have hne : l ≠ [] := fun e => by subst e; simp at hl
      have := List.dropLast_concat_getLast hne
      rw [List.getLast?_eq_some_getLast hne] at hl
      rw [Option.some.inj hl] at this
      rw [List.push_toArray, this]
    have h5' : ∀ (j : Nat) (o : Oper), l.dropLast.toArray[j]? = some o → o.guard = none ∧ (∀ e ∈ o.after, e.on < j) ∧ noDefer o.op = true := fun j o ho => by
      rw [List.all_eq_true] at h5
      have hm : (o, j) ∈ l.dropLast.zipIdx := by
        rw [List.mk_mem_zipIdx_iff_getElem?]
        simpa using ho
      have := h5 _ hm
      simp only [Bool.and_eq_true, Option.isNone_iff_eq_none] at this
      refine ⟨this.1.1, fun e he => ?_, this.2⟩
      have := Array.all_eq_true_iff_forall_mem.1 this.1.2 e he
      exact of_decide_eq_true this
    rw [e]
    refine region_store hm h4 (fun j o ho => (h5' j o ho).2.1) (fun j o ho => ⟨(h5' j o ho).1, fun ρ => Oper.semAt_eq _ _ _ (fun c hc => ?_)⟩) (fun e he => ?_) (fun j hj => ?_) h1 (h st hl)
    · have := (h5' j o ho).2.2
      rw [hc] at this; cases this
    · have := Array.all_eq_true_iff_forall_mem.1 h2 e he
      simpa using of_decide_eq_true this
    · rw [List.all_eq_true] at h3
      have := h3 j (List.mem_range.2 (by simpa using hj))
      obtain ⟨e, he, hb⟩ := Array.any_eq_true'.1 this
      simp only [Bool.and_eq_true, beq_iff_eq] at hb
      exact ⟨e, he, hb.1, hb.2⟩
end
end Go.Proofs.YtnjmiodnkjabgaaDoor.P
namespace Go.Proofs.YtnjmiodnkjabgaaDoor.P
open Go.RowKit Go.Proofs.YtnjmiodnkjabgaaDoorW.PrintWords Go.Proofs.YtnjmiodnkjabgaaDoorW.PrintLast Go.Proofs.YtnjmiodnkjabgaaDoorW.PrintMore
attribute [local go_sem] max2_int min2_int max_two min_two max_three min_three max_four min_four   -- for this text's walks alone
set_option linter.unusedVariables false
set_option linter.unusedSimpArgs false

attribute [local go_sem] Oper.semAt_some
/-- what the loop over a set's tones leaves in memory between two tones: the rest of the set -/
def ToneSt (B : Nat) (A C : World) : Prop := (∃ v, A.cell? ⟨B, 0, none⟩ = some v) ∧ ∃ u, C = A.setCell ⟨B, 0, none⟩ u
def ToneKp (B : Nat) (A C : World) : Prop := C.heap[B]? = A.heap[B]? ∧ C.heap[1]? = A.heap[1]?
def restAt (B : Nat) (w : World) : Nat := match w.cell? ⟨B, 0, none⟩ with | some (.int _ z) => z.toNat | _ => 0
theorem step_rest {c : Nat} (hc : c < 2 ^ 24) (hp : 0 < c) : Go.bits .and .i64 (c : Int) (IntKind.i64.wrap ((c : Int) - 1)) = ((c &&& (c - 1) : Nat) : Int) := by
  have h24 : (2 : Nat) ^ 24 = 16777216 := by decide
  have h63 : (2 : Nat) ^ 63 = 9223372036854775808 := by decide
  rw [i64_id (by omega) (by omega), show (c : Int) - 1 = ((c - 1 : Nat) : Int) by omega, and_i64 (by omega) (by omega)]
theorem TZ_calls (c m : Nat) (hc : c < 2 ^ 24) (hp : 0 < c) (h1 : c.testBit m = true) (h2 : ∀ j, (c &&& (c - 1)).testBit j = (c.testBit j && !decide (j = m))) (w : World) (hT : Tabs w) :
    Calls Tryd.prog 76 #[.int .u64 (c : Int)] w fun e w' => e = .returned (.int .i64 (m : Int)) ∧ w' = w := by
  have HC := Aside0.mk (TZ64_calls c m hc hp h1 h2 w hT)
  have h24 : (2 : Nat) ^ 24 = 16777216 := by decide
  have e := u64_mod (c : Int)
  have e2 : IntKind.u64.wrap (c : Int) = (c : Int) := by rw [e]; omega
  clear hT hp h1 h2 hc e h24
  go_enter Tryd.func76, Tryd.ntmps76
  go_wp2_with (go_at_call 92; refine HC.out.mono ?_; rintro e w' ⟨rfl, rfl⟩)
  go_ret
  exact ⟨by simp, rfl⟩
set_option maxHeartbeats 2000000 in
theorem tones1_seq (B c0 : Nat) (xs : List Nat) (w : World) (hB : B < w.heap.size) (hB1 : B ≠ 1) (hT0 : Tabs w) (hc0 : w.cell? ⟨B, 0, none⟩ = some (.int .i64 (c0 : Int))) (hf0 : w.frozen? ⟨B, 0, none⟩ = false) (h240 : c0 < 2 ^ 24) (hx0 : TonesOf c0 xs) :
    SeqSt Fence.wide 2 Tryd.prog 75 #[.pointer (some ⟨B, 0, none⟩)] (fun x : Nat => #[.int .i64 (x : Int)]) xs (ToneSt B) (ToneKp B) w := by
  intro l J Jx W hW hJ hJx hY h0
  have hWh : W.heap[B]? = w.heap[B]? := hW.block _ hB
  have HC := Aside0.mk ((cell_heap hWh 0).trans hc0)
  have HF := Aside0.mk ((frozen_heap hWh 0).trans hf0)
  have HT := Aside0.mk (hT0.below hW)
  have HX := Aside0.mk hx0
  clear hWh hc0 hf0 hT0 hx0 hW hB
  refine callsIn_of_wp Tryd.func75 rfl trivial ?_ rfl
  simp only [Tryd.ntmps75, List.size_toArray, List.length_cons, List.length_nil, Nat.reduceAdd, Nat.reduceSub, Array.replicate_succ, Array.replicate_zero, List.push_toArray, List.append_toArray, List.nil_append, List.cons_append]
  gi_wp2
  gi_loopw [3] (fun p wr => ∃ (pre rest : List Nat) (c : Nat), xs = pre ++ rest ∧ TonesOf c rest ∧ c < 2 ^ 24 ∧ wr.cell? ⟨B, 0, none⟩ = some (.int .i64 (c : Int)) ∧ wr.frozen? ⟨B, 0, none⟩ = false ∧ Tabs wr ∧ J pre wr)
    (fun p wr => restAt B wr)
  case atStart =>
    exact ⟨[], xs, c0, rfl, HX.out, h240, HC.out, HF.out, HT.out, h0⟩
  case round =>
    obtain ⟨pre, rest, c, hx, ht, h24, hc, hf, hT, hJs⟩ := hrel
    clear HC HF HT HX h240
    rcases Nat.eq_zero_or_pos c with hz | hp
    · subst hz
      have hr0 := tones_zero ht
      subst hr0
      gi_wp2
      go_end0
      exact ⟨⟨_, rfl⟩, .inl (by rw [hx, List.append_nil]; exact hJs)⟩
    · obtain ⟨m, r, rfl, h1, h2, h3⟩ := tones_cons hp ht
      obtain ⟨fn, tmps, assign, body, hy, hR⟩ := hY pre m r wr hx hJs
      have HTZ := Aside0.mk (TZ_calls c m h24 hp h1 h2 wr hT)
      have hm := bit_lt h24 h1
      have hne : ((c : Int) != 0) = true := bne_iff_ne.2 (by omega)
      have hne2 : ((c : Int) == 0) = false := beq_eq_false_iff_ne.2 (by omega)
      have hw : IntKind.u64.wrap (c : Int) = (c : Int) := by
        rw [u64_mod]; have : (2 : Nat) ^ 24 = 16777216 := by decide
        omega
      have HE := Aside0.mk hc
      have HX := Aside0.mk hx
      have HP := Aside0.mk hp
      have H24 := Aside0.mk h24
      have HTT := Aside0.mk hT
      have HR3 := Aside0.mk h3
      clear hx hp h24 hT h3 ht h1 h2
      gi_wp2_with (first | (refine ⟨trivial, ?_⟩; gi_at_call 76; refine (callsIn_wide.2 HTZ.out).mono ?_; rintro e w' ⟨rfl, rfl⟩) | (gi_at_call 76; refine (callsIn_wide.2 HTZ.out).mono ?_; rintro e w' ⟨rfl, rfl⟩))
      refine hR.mono ?_
      rintro e W3 (⟨rfl, hJ3, hk3⟩ | ⟨rfl, hJx3⟩)
      · have hc3 : W3.cell? ⟨B, 0, none⟩ = some (.int .i64 (c : Int)) := (cell_heap hk3.1 0).trans hc
        have hf3 : W3.frozen? ⟨B, 0, none⟩ = false := (frozen_heap hk3.1 0).trans hf
        have HT3 := Aside0.mk (HTT.out.heap hk3.2)
        have hst := step_rest H24.out HP.out
        rw [i64_w] at hst
        generalize hd : c &&& (c - 1) = d at hst HR3
        have HD := Aside0.mk hd
        clear hd hc hf hJs hR hy HTZ HTT
        gi_wp2
        have hcd : (W3.setCell ⟨B, 0, none⟩ (.int .i64 (d : Int))).cell? ⟨B, 0, none⟩ = some (.int .i64 (d : Int)) := World.cell?_setCell_same' _ _ _ (by rw [hc3]; rfl)
        have hlt : d < c := by rw [← HD.out]; exact and_pred_lt HP.out
        go_roundw
        case rel =>
          refine ⟨pre ++ [m], r, d, by rw [HX.out]; simp, HR3.out, Nat.lt_trans hlt H24.out, hcd, by rw [World.frozen?_setCell]; exact hf3, ?_, ?_⟩
          · intro i hi
            rw [World.cell?_setCell_far _ _ _ _ hB1]
            exact HT3.out i hi
          · exact hJ _ _ _ hJ3 ⟨⟨_, hc3⟩, _, rfl⟩
        case measure =>
          have e1 : restAt B (W3.setCell ⟨B, 0, none⟩ (.int .i64 (d : Int))) = d := by unfold restAt; rw [hcd]; simp
          have e2 : restAt B w' = c := by unfold restAt; rw [HE.out]; simp
          rw [e1, e2]; exact hlt
      · gi_wp2
        refine bodyPost_ret (results_none rfl _ _ _) rfl ?_
        exact ⟨⟨_, rfl⟩, .inr ⟨pre ++ [m], r, by rw [HX.out]; simp, hJx3⟩⟩
theorem tones_calls (c : Int) (w : World) : Calls Tryd.prog 66 #[.int .i64 c] w fun e w' => e = .returned (.func (.func 75) #[] #[.pointer (some ⟨w.heap.size, 0, none⟩)]) ∧ w' = w.alloc (.cells #[.int .i64 c] 3) := by
  go_enter Tryd.func66, Tryd.ntmps66
  go_wp2
  go_ret
  exact ⟨rfl, rfl⟩
theorem new_cell (W : World) (v : Value) (t : TypeId) : (W.alloc (.cells #[v] t)).cell? ⟨W.heap.size, 0, none⟩ = some v ∧ (W.alloc (.cells #[v] t)).frozen? ⟨W.heap.size, 0, none⟩ = false := by
  have h := World.alloc_heap_new W (.cells #[v] t)
  refine ⟨?_, ?_⟩
  · have := cell_one_new W v t 0 v rfl
    simp [Addr.add] at this ⊢
  · unfold World.frozen?; simp only [h]; simp
theorem old_cell {W : World} {a : Addr} {v : Value} (o : Obj) (h : W.cell? a = some v) : (W.alloc o).cell? a = some v := cell_kept h (World.grownBy_alloc W o none) (fun r e => by cases e)
theorem old_frozen {W : World} {a : Addr} {v : Value} (o : Obj) (h : W.cell? a = some v) (hf : W.frozen? a = false) : (W.alloc o).frozen? a = false := (frozen_kept h (World.grownBy_alloc W o none) (fun r e => by cases e)).trans hf
/-- four new boxes -/
theorem four_new (w : World) (v0 v1 v2 v3 : Value) (t0 t1 t2 t3 : TypeId) (S : Nat) (hS : S = w.heap.size) (W0 : World) (h : (((w.alloc (.cells #[v0] t0)).alloc (.cells #[v1] t1)).alloc (.cells #[v2] t2)).alloc (.cells #[v3] t3) = W0) :
    W0.cell? ⟨S, 0, none⟩ = some v0 ∧ W0.cell? ⟨S + 1, 0, none⟩ = some v1 ∧ W0.cell? ⟨S + 1 + 1, 0, none⟩ = some v2 ∧ W0.cell? ⟨S + 1 + 1 + 1, 0, none⟩ = some v3 ∧ W0.frozen? ⟨S + 1 + 1, 0, none⟩ = false ∧ W0.frozen? ⟨S + 1 + 1 + 1, 0, none⟩ = false ∧ W0.heap.size = S + 4 ∧ Below S w W0 := by
  subst h hS
  have a0 := new_cell w v0 t0
  have a1 := new_cell (w.alloc (.cells #[v0] t0)) v1 t1
  have a2 := new_cell ((w.alloc (.cells #[v0] t0)).alloc (.cells #[v1] t1)) v2 t2
  have a3 := new_cell (((w.alloc (.cells #[v0] t0)).alloc (.cells #[v1] t1)).alloc (.cells #[v2] t2)) v3 t3
  simp only [World.size_alloc] at a1 a2 a3
  exact ⟨old_cell _ (old_cell _ (old_cell _ a0.1)), old_cell _ (old_cell _ a1.1), old_cell _ a2.1, a3.1, old_frozen _ a2.1 a2.2, a3.2, by simp [World.size_alloc], below_alloc (below_alloc (below_alloc (below_alloc (Below.refl _ _) _) _) _) _⟩
def toN (φ : Nat → Int) (n x : Nat) : Nat := (φ x % (n : Int)).toNat
theorem toN_lt {φ : Nat → Int} {n : Nat} (hn : 1 ≤ n) (x : Nat) : toN φ n x < n := by
  have h0 := Int.emod_nonneg (φ x) (show (n : Int) ≠ 0 by omega)
  have h1 := Int.emod_lt_of_pos (φ x) (show (0 : Int) < n by omega)
  unfold toN; omega
theorem mapped_nums {n : Nat} (hn : 1 ≤ n) (hn2 : n ≤ 24) (φ : Nat → Int) (pre : List Nat) (x : Nat) : ∃ (t : Nat) (q1 q2 : Int) (p o o2 : Nat), ((n : Int) == 0) = false ∧ Int.tmod (φ x) (n : Int) = q1 ∧ wrap64 (q1 + (n : Int)) = q2 ∧ Int.tmod q2 (n : Int) = (t : Int) ∧ t ≤ 64 ∧
    IntKind.i64.wrap ((2 : Int) ^ t) = (p : Int) ∧ wrap64 ((2 : Int) ^ t) = (p : Int) ∧ Go.bits .or .i64 (o : Int) (p : Int) = (o2 : Int) ∧ orMap (toN φ n) pre = o ∧ orMap (toN φ n) (pre ++ [x]) = o2 := by
  have h := tmod_mod (a := φ x) (n := (n : Int)) (by omega) (by omega)
  have h0 := Int.emod_nonneg (φ x) (show (n : Int) ≠ 0 by omega)
  have h1 := Int.emod_lt_of_pos (φ x) (show (0 : Int) < n by omega)
  have hl := toN_lt (φ := φ) hn x
  have hp : 2 ^ (toN φ n x) < 2 ^ 24 := Nat.pow_lt_pow_right (by omega) (by omega)
  have ho : orMap (toN φ n) pre < 2 ^ 24 := Nat.lt_of_lt_of_le (orMap_lt (fun y => toN_lt hn y) pre) (Nat.pow_le_pow_right (by omega) hn2)
  have h24 : (2 : Nat) ^ 24 = 16777216 := by decide
  have h63 : (2 : Nat) ^ 63 = 9223372036854775808 := by decide
  refine ⟨toN φ n x, _, _, 2 ^ (toN φ n x), orMap (toN φ n) pre, orMap (toN φ n) pre ||| 2 ^ (toN φ n x), beq_eq_false_iff_ne.2 (by omega), rfl, rfl, ?_, by omega, ?_, ?_, ?_, rfl, orMap_snoc _ _ _⟩
  · rw [h]; unfold toN; omega
  · rw [← pow_cast]; generalize 2 ^ toN φ n x = P at hp ⊢; rw [i64_id (by omega) (by omega)]
  · rw [← pow_cast]; generalize 2 ^ toN φ n x = P at hp ⊢; rw [wrap_id (by omega) (by omega)]
  · rw [or_i64 (by omega) (by omega)]
theorem mapped_calls (φ : Nat → Int) (g : Nat) (lb : Array Value) (eg : ∀ args w, (callFunc g args).run Tryd.prog w = .ok (.enter g args) w) (n c : Nat) (hn : 1 ≤ n) (hn2 : n ≤ 24) (hc : c < 2 ^ n) (w : World) (hT : Tabs w)
    (hto : ∀ (x : Nat) (W : World), x < 24 → Below w.heap.size w W → Calls Tryd.prog g (#[.int .i64 (x : Int)] ++ lb) W fun e w' => e = .returned (.int .i64 (φ x)) ∧ w' = W) :
    Calls Tryd.prog 45 #[.int .i64 (n : Int), .int .i64 (c : Int), .func (.func g) #[] lb] w fun e w' => e = .returned (.int .i64 ((imgN (toN φ n) c : Nat) : Int)) ∧ Below w.heap.size w w' := by
  have HTO := Aside0.mk hto
  have HT := Aside0.mk hT
  have HN := Aside0.mk hn
  have HN2 := Aside0.mk hn2
  have HC := Aside0.mk hc
  clear hto hT hn hn2 hc
  refine (callsIn_wide (n := 3)).1 ?_
  refine callsIn_of_wp_marks Tryd.func45 rfl trivial ?_ rfl
  simp only [Tryd.ntmps45, List.size_toArray, List.length_cons, List.length_nil, Nat.reduceAdd, Nat.reduceSub, Array.replicate_succ, Array.replicate_zero, List.push_toArray, List.append_toArray, List.nil_append, List.cons_append]
  gi_wp2_with (first | (refine ⟨trivial, ?_⟩; gi_at_call 66; refine (callsIn_wide.2 (tones_calls _ _)).mono ?_; rintro e w' ⟨rfl, rfl⟩) | (gi_at_call 66; refine (callsIn_wide.2 (tones_calls _ _)).mono ?_; rintro e w' ⟨rfl, rfl⟩))
  obtain ⟨xs, hxs⟩ := tones_exist c HC.out
  obtain ⟨S, hS⟩ : ∃ S, S = w.heap.size := ⟨_, rfl⟩
  have h24 : c < 2 ^ 24 := Nat.lt_of_lt_of_le HC.out (Nat.pow_le_pow_right (by omega) HN2.out)
  have hS1 : 1 < S := by rw [hS]; exact HT.out.size
  obtain ⟨W0, hW0⟩ : ∃ W0, ((((w.alloc (Obj.cells #[Value.int IntKind.i64 ↑n] 56)).alloc (Obj.cells #[Value.func (Fn.func g) #[] lb] 53)).alloc (Obj.cells #[Value.int IntKind.i64 0] 3)).alloc (Obj.cells #[Value.int IntKind.i64 ↑c] 3)) = W0 := ⟨_, rfl⟩
  rw [hW0, ← hS]
  obtain ⟨c0, c1, c2, c3, f2, f3, z0, B0⟩ := four_new w _ _ _ _ _ _ _ _ S hS W0 hW0
  have T0 : Tabs W0 := HT.out.below (hS ▸ B0)
  have HS := Aside0.mk hS
  clear hS hW0
  refine range_st rfl (by omega) (gf := 75) (lb := #[.pointer (some ⟨S + 1 + 1 + 1, 0, none⟩)]) rfl trivial (enters_of Tryd.func75 (by kernel_rfl) rfl)
    (tones1_seq (S + 1 + 1 + 1) c xs W0 (by omega) (by omega) T0 c3 f3 h24 hxs) (fun _ => rfl)
    (fun A B h => by obtain ⟨_, u, rfl⟩ := h; exact KeepsOthers.setCell _ _ _) (fun h k => ⟨k.1.trans h.1, k.2.trans h.2⟩)
    (fun W l o o' hl _ _ => ⟨World.putObj_heap_other (by omega), World.putObj_heap_other (by omega)⟩)
    (fun pre W => W.cell? ⟨S + 1 + 1, 0, none⟩ = some (.int .i64 ((orMap (toN φ n) pre : Nat) : Int)) ∧ W.frozen? ⟨S + 1 + 1, 0, none⟩ = false ∧ W.cell? ⟨S, 0, none⟩ = some (.int .i64 (n : Int)) ∧ W.cell? ⟨S + 1, 0, none⟩ = some (.func (.func g) #[] lb) ∧ Below S w W)
    (fun _ _ _ => False)
    (fun s A B row hs hg hr => ⟨cell_kept hs.1 hg (fun r e => (hr r e).2), (frozen_kept hs.1 hg (fun r e => (hr r e).2)).trans hs.2.1, cell_kept hs.2.2.1 hg (fun r e => (hr r e).2), cell_kept hs.2.2.2.1 hg (fun r e => (hr r e).2), hs.2.2.2.2.grown hg (by rw [HS.out]; exact hs.2.2.2.2.size) (fun k e => by have := (hr k e).1; omega)⟩)
    (fun _ _ _ _ _ hs _ _ => hs)
    (fun s A B hs h => by
      obtain ⟨_, u, rfl⟩ := h
      exact ⟨(World.cell?_setCell_far _ _ _ _ (by simp only [ne_eq]; omega)).trans hs.1, by rw [World.frozen?_setCell]; exact hs.2.1, (World.cell?_setCell_far _ _ _ _ (by simp only [ne_eq]; omega)).trans hs.2.2.1, (World.cell?_setCell_far _ _ _ _ (by simp only [ne_eq]; omega)).trans hs.2.2.2.1, hs.2.2.2.2.setCell (p := ⟨S + 1 + 1 + 1, 0, none⟩) (by simp; omega) _⟩)
    (fun _ _ _ _ hs _ => hs)
    ⟨c2, f2, c0, c1, B0⟩
    (fun x => { tmps := #[.int .i64 (n : Int), .int .i64 (c : Int), .func (.func g) #[] lb, .pointer (some ⟨S, 0, none⟩), undef, .pointer (some ⟨S + 1, 0, none⟩), .int .i64 0, .pointer (some ⟨S + 1 + 1, 0, none⟩), .int .i64 (x : Int), .int .i64 (c : Int), .func (.func 75) #[] #[.pointer (some ⟨S + 1 + 1 + 1, 0, none⟩)], .int .i64 (x : Int), undef, undef, undef, undef, undef, undef, undef, undef, undef, undef, undef, undef, undef], defers := [] }) ?assign ?body ?done ?stop
  case assign =>
    intro l x W K hK
    gi_wp2
    exact hK
  case body =>
    rintro l pre x rest W hx ⟨d0, g0, d1, d2, hB⟩
    have hx24 : x < 24 := bit_lt h24 ((tones_mem hxs x).1 (by rw [hx]; simp))
    have HG := Aside0.mk (fun q => HTO.out x (W.drewN q) hx24 (HS.out ▸ pw_below_drewN hB q))
    obtain ⟨t, q1, q2, p, o, o2, hne, e1, e2, e3, ht, e4, e5, e6, hd, hd2⟩ := mapped_nums HN.out HN2.out φ pre x
    rw [hd] at d0
    have e2w : IntKind.i64.wrap (q1 + (n : Int)) = q2 := (i64_w _).trans e2
    have hn0 : ¬ n = 0 := by have := HN.out; omega
    have HD2 := Aside0.mk hd2
    have HBB := Aside0.mk hB
    have HX := Aside0.mk hx
    clear hx hx24 hd hd2 hxs c0 c1 c2 c3 f2 f3 z0 B0 T0 h24 hB
    gi_wp2
    refine region_store_lit (by kernel_rfl) (by kernel_rfl) (fun st hst => ?_)
    cases hst
    dsimp only [List.dropLast]
    repeat (refine wpQuietIn_step (fun _ _ _ _ => trivial) (fun K hK => ?_); go_simp; refine hK _ ?_; clear hK K)
    refine wpQuietIn_step (fun _ _ _ _ => trivial) (fun K hK => ?_)
    go_simp
    refine ⟨.int .i64 (φ x), fun q => CallsIn.quiet_of_same (CallsIn.inRound l (callsIn_wide.2 (HG.out q))), hK _ ?_⟩
    clear hK K
    repeat (refine wpQuietIn_step (fun _ _ _ _ => trivial) (fun K hK => ?_); go_simp; refine hK _ ?_; clear hK K)
    refine wpQuietIn_nil ?_
    rintro _ ⟨q, rfl⟩
    dsimp only [List.getLast]
    go_simp
    have hout : (W.drewN q).cell? ⟨S + 1 + 1, 0, none⟩ = some (.int .i64 (o : Int)) := d0
    have hhead : ∀ b, b ≠ S + 1 + 1 → ((W.drewN q).setCell ⟨S + 1 + 1, 0, none⟩ (.int .i64 (o2 : Int))).heap[b]? = W.heap[b]? := fun b hb =>
      Below.heap_setCell (W.drewN q) ⟨S + 1 + 1, 0, none⟩ (.int .i64 (o2 : Int)) b hb
    refine ⟨(show KeepsOthers W (W.drewN q) from ⟨Nat.le_refl _, fun _ _ h _ => h⟩).trans (KeepsOthers.setCell (W.drewN q) _ _), ⟨hhead _ (by omega), hhead _ (by omega)⟩, ?_, ?_, (cell_heap (hhead _ (by omega)) 0).trans d1, (cell_heap (hhead _ (by omega)) 0).trans d2, ?_⟩
    · rw [HD2.out]; exact World.cell?_setCell_same' _ _ _ (by rw [hout]; rfl)
    · rw [World.frozen?_setCell]; exact g0
    · exact (pw_below_drewN HBB.out q).setCell (p := ⟨S + 1 + 1, 0, none⟩) (by show S ≤ S + 1 + 1; omega) _
  case done =>
    rintro D W hD ⟨d0, g0, d1, d2, hB⟩ hK
    rw [imgN_of hxs] at d0
    gi_wp2
    refine ⟨by simp, .inl ⟨_, _, rfl, run_takeDeferred hK, ?_⟩⟩
    exact ⟨_, results_tmp rfl _ _ _, rfl, by rw [← HS.out]; exact hB.grown (grownBy_putObj' W D _) (by rw [HS.out]; exact hB.size) (fun k e => by cases e; omega)⟩
  case stop =>
    rintro D c pre rest W _ _ h _
    exact h.elim
def negTo (x : Nat) : Int := -(x : Int)
def chords_circle_turn.f (a0 a1 : Int) : Option Int := if 1 ≤ a0 ∧ a0 ≤ 24 ∧ 0 ≤ a1 ∧ a1 < 2 ^ a0.toNat then some ((accTo (toN negTo a0.toNat) a1.toNat a0.toNat : Nat) : Int) else none
theorem turn1_calls (x : Nat) (hx : x < 24) (W : World) : Calls Tryd.prog 65 #[.int .i64 (x : Int)] W fun e w' => e = .returned (.int .i64 (negTo x)) ∧ w' = W := by
  have e1 : IntKind.i64.wrap (-(x : Int)) = negTo x := by rw [i64_id (by omega) (by omega)]; rfl
  have e2 : wrap64 (-(x : Int)) = negTo x := by rw [wrap_id (by omega) (by omega)]; rfl
  go_enter Tryd.func65, Tryd.ntmps65
  go_wp2
  go_ret
  exact ⟨by first | rfl | simp [e1, e2], rfl⟩
theorem chords_circle_turn.calls (a0 a1 r : Int) (w : World) (hT : Tabs w) (h : chords_circle_turn.f a0 a1 = some r) :
    Calls Tryd.prog 43 #[.int .i64 a0, .int .i64 a1] w fun e w' => e = .returned (.int .i64 r) ∧ Below w.heap.size w w' := by
  unfold chords_circle_turn.f at h
  by_cases hc : 1 ≤ a0 ∧ a0 ≤ 24 ∧ 0 ≤ a1 ∧ a1 < 2 ^ a0.toNat
  · rw [if_pos hc] at h
    obtain ⟨h1, h24, h0, h2⟩ := hc
    obtain ⟨N, rfl⟩ := Int.eq_ofNat_of_zero_le (show 0 ≤ a0 by omega)
    obtain ⟨C, rfl⟩ := Int.eq_ofNat_of_zero_le h0
    simp only [Int.toNat_natCast] at h h2
    rw [← pow_cast] at h2
    rw [accTo_all (by omega)] at h
    obtain rfl := Option.some.inj h
    have HM := Aside0.mk (mapped_calls negTo 65 #[] (enters_of Tryd.func65 (by kernel_rfl) rfl) N C (by omega) (by omega) (by omega) w hT (fun x W hx _ => turn1_calls x hx W))
    generalize imgN (toN negTo N) C = R at HM ⊢
    clear hT h h1 h24 h0 h2
    go_enter Tryd.func43, Tryd.ntmps43
    go_wp2_with (go_at_call 45; refine HM.out.mono ?_; rintro e w' ⟨rfl, hb⟩)
    go_ret
    exact ⟨by simp, hb⟩
  · rw [if_neg hc] at h; cases h

end Go.Proofs.YtnjmiodnkjabgaaDoor.P
namespace Go.Proofs.YtnjmiodnkjabgaaDoor.P
open Go.RowKit Go.Proofs.YtnjmiodnkjabgaaDoorW.PrintWords Go.Proofs.YtnjmiodnkjabgaaDoorW.PrintLast Go.Proofs.YtnjmiodnkjabgaaDoorW.PrintMore
attribute [local go_sem] max2_int min2_int max_two min_two max_three min_three max_four min_four   -- for this text's walks alone
set_option linter.unusedVariables false
set_option linter.unusedSimpArgs false

/-! ### chords_Way: function 24 -/
mutual
def chords_Way.l0 : Nat → Int → Int → Int → Int → List Bool → Int → Int → Option (Int × Bool × Int)
  | 0, _, _, _, _, _, _, _ => none
  | k + 1, x0, x1, x2, x9, x20, x21, x22 => if x22 < x21 then (if 0 ≤ x22 then (if x22 < (x20.length : Int) then (if rdOf false x20 x22 = true then ((chords_circle_turn.f x9 x1).bind fun t1009 => (chords_Way.j1 k x0 t1009 x2 x9 (rdOf false x20 x22) x20 x21 x22)) else (chords_Way.j1 k x0 x1 x2 x9 (rdOf false x20 x22) x20 x21 x22)) else (none)) else (none)) else (some (0, false, 4))
def chords_Way.j1 : Nat → Int → Int → Int → Int → Bool → List Bool → Int → Int → Option (Int × Bool × Int)
  | 0, _, _, _, _, _, _, _, _ => none
  | k + 1, x0, x1, x2, x9, x11, x20, x21, x22 => chords_Way.l1 k x0 x1 x2 x9 x11 x20 x21 x22 x0 0
def chords_Way.l1 : Nat → Int → Int → Int → Int → Bool → List Bool → Int → Int → Int → Int → Option (Int × Bool × Int)
  | 0, _, _, _, _, _, _, _, _, _, _ => none
  | k + 1, x0, x1, x2, x9, x11, x20, x21, x22, x30, x31 => if x31 < x30 then ((chords_circle_move.f x9 x1 x31).bind fun t1010 => (if t1010 = x2 then (some (x31, x11, 0)) else (chords_Way.l1 k x0 x1 x2 x9 x11 x20 x21 x22 x30 (wrap64 (x31 + 1))))) else (chords_Way.l0 k x0 x1 x2 x9 x20 x21 (wrap64 (x22 + 1)))
end
def chords_Way.f (k : Nat) (a0 : Int) (a1 : Int) (a2 : Int) : Option (Int × Bool × Int) := (chords_circle_valid.f a0 (([a1, a2] : List Int))).bind fun t1004 => (if t1004 = true then ((some (([false, true] : List Bool) : List Bool)).bind fun y1005 => (chords_Way.l0 k a0 a1 a2 a0 y1005 (y1005.length : Int) 0)) else (some (0, false, 2)))
theorem chords_Way.mono_l : ∀ k, (∀ y0 y1 y2 y3 y4 y5 y6, LeO (chords_Way.l0 k y0 y1 y2 y3 y4 y5 y6) (chords_Way.l0 (k + 1) y0 y1 y2 y3 y4 y5 y6)) ∧ (∀ y0 y1 y2 y3 y4 y5 y6 y7, LeO (chords_Way.j1 k y0 y1 y2 y3 y4 y5 y6 y7) (chords_Way.j1 (k + 1) y0 y1 y2 y3 y4 y5 y6 y7)) ∧ (∀ y0 y1 y2 y3 y4 y5 y6 y7 y8 y9, LeO (chords_Way.l1 k y0 y1 y2 y3 y4 y5 y6 y7 y8 y9) (chords_Way.l1 (k + 1) y0 y1 y2 y3 y4 y5 y6 y7 y8 y9))
  | 0 => ⟨fun _ _ _ _ _ _ _ r h => by simp [chords_Way.l0] at h, fun _ _ _ _ _ _ _ _ r h => by simp [chords_Way.j1] at h, fun _ _ _ _ _ _ _ _ _ _ r h => by simp [chords_Way.l1] at h⟩
  | k + 1 => by
    obtain ⟨ih0, ih1, ih2⟩ := chords_Way.mono_l k
    refine ⟨?_, ?_, ?_⟩
    · intro y0 y1 y2 y3 y4 y5 y6
      unfold chords_Way.l0
      repeat' first
      | (with_reducible exact ih0 _ _ _ _ _ _ _)
      | (with_reducible exact ih1 _ _ _ _ _ _ _ _)
      | (with_reducible exact ih2 _ _ _ _ _ _ _ _ _ _)
      | (with_reducible exact LeO.refl _)
      | (with_reducible exact LeO.none _)
      | (with_reducible refine LeO.ite ?_ ?_)
      | (with_reducible refine LeO.bind ?_ (fun _ => ?_))
      | exact ih0 _ _ _ _ _ _ _
      | exact ih1 _ _ _ _ _ _ _ _
      | exact ih2 _ _ _ _ _ _ _ _ _ _
      | exact LeO.none _
      | refine LeO.ite ?_ ?_
      | refine LeO.bind ?_ (fun _ => ?_)
    · intro y0 y1 y2 y3 y4 y5 y6 y7
      unfold chords_Way.j1
      repeat' first
      | (with_reducible exact ih0 _ _ _ _ _ _ _)
      | (with_reducible exact ih1 _ _ _ _ _ _ _ _)
      | (with_reducible exact ih2 _ _ _ _ _ _ _ _ _ _)
      | (with_reducible exact LeO.refl _)
      | (with_reducible exact LeO.none _)
      | (with_reducible refine LeO.ite ?_ ?_)
      | (with_reducible refine LeO.bind ?_ (fun _ => ?_))
      | exact ih0 _ _ _ _ _ _ _
      | exact ih1 _ _ _ _ _ _ _ _
      | exact ih2 _ _ _ _ _ _ _ _ _ _
      | exact LeO.none _
      | refine LeO.ite ?_ ?_
      | refine LeO.bind ?_ (fun _ => ?_)
    · intro y0 y1 y2 y3 y4 y5 y6 y7 y8 y9
      unfold chords_Way.l1
      repeat' first
      | (with_reducible exact ih0 _ _ _ _ _ _ _)
      | (with_reducible exact ih1 _ _ _ _ _ _ _ _)
      | (with_reducible exact ih2 _ _ _ _ _ _ _ _ _ _)
      | (with_reducible exact LeO.refl _)
      | (with_reducible exact LeO.none _)
      | (with_reducible refine LeO.ite ?_ ?_)
      | (with_reducible refine LeO.bind ?_ (fun _ => ?_))
      | exact ih0 _ _ _ _ _ _ _
      | exact ih1 _ _ _ _ _ _ _ _
      | exact ih2 _ _ _ _ _ _ _ _ _ _
      | exact LeO.none _
      | refine LeO.ite ?_ ?_
      | refine LeO.bind ?_ (fun _ => ?_)
theorem chords_Way.mono : ∀ a0 a1 a2 k, LeO (chords_Way.f k a0 a1 a2) (chords_Way.f (k + 1) a0 a1 a2) := by
  intro a0 a1 a2 k
  obtain ⟨ih0, ih1, ih2⟩ := chords_Way.mono_l k
  unfold chords_Way.f
  repeat' first
      | (with_reducible exact ih0 _ _ _ _ _ _ _)
      | (with_reducible exact ih1 _ _ _ _ _ _ _ _)
      | (with_reducible exact ih2 _ _ _ _ _ _ _ _ _ _)
      | (with_reducible exact LeO.refl _)
      | (with_reducible exact LeO.none _)
      | (with_reducible refine LeO.ite ?_ ?_)
      | (with_reducible refine LeO.bind ?_ (fun _ => ?_))
      | exact ih0 _ _ _ _ _ _ _
      | exact ih1 _ _ _ _ _ _ _ _
      | exact ih2 _ _ _ _ _ _ _ _ _ _
      | exact LeO.none _
      | refine LeO.ite ?_ ?_
      | refine LeO.bind ?_ (fun _ => ?_)
set_option maxHeartbeats 8000000 in
set_option maxRecDepth 100000 in
theorem chords_Way.calls (k : Nat) (a0 : Int) (a1 : Int) (a2 : Int) (r1 : Int) (r2 : Bool) (r3 : Int) (w : World) (hT : Tabs w) (h : chords_Way.f k a0 a1 a2 = some (r1, r2, r3)) :
    Calls Tryd.prog 24 #[.int .i64 a0, .int .i64 a1, .int .i64 a2] w fun e w' => e = .returned (.tuple #[.int .i64 r1, .bool r2, .int .i64 r3]) ∧ Below w.heap.size w w' := by
  have HB := Aside0.mk (Below.refl w.heap.size w)
  have HT0 := Aside0.mk hT
  clear hT
  have H : ((chords_circle_valid.f a0 (([a1, a2] : List Int))).bind fun t1004 => (if t1004 = true then ((some (([false, true] : List Bool) : List Bool)).bind fun y1005 => (chords_Way.l0 k a0 a1 a2 a0 y1005 (y1005.length : Int) 0)) else (some (0, false, 2)))) = some (r1, r2, r3) := h
  clear h
  obtain ⟨y1001, hy1001⟩ : ∃ y_ : List Int, y_ = (([a1, a2] : List Int)) := ⟨_, rfl⟩
  replace H : ((chords_circle_valid.f a0 y1001).bind fun t1004 => (if t1004 = true then ((some (([false, true] : List Bool) : List Bool)).bind fun y1005 => (chords_Way.l0 k a0 a1 a2 a0 y1005 (y1005.length : Int) 0)) else (some (0, false, 2)))) = some (r1, r2, r3) := by first | (rw [hy1001]; with_reducible exact H) | (have H2_ := (Option.bind_some _ _).symm.trans H; rw [hy1001]; with_reducible exact H2_) | (have H2_ := (Option.bind_some _ _).symm.trans H; with_reducible exact H2_) | with_reducible exact H | (rw [hy1001]; exact H) | exact H
  have Ny1001 := Aside0.mk hy1001
  clear hy1001
  replace H := Option.bind_eq_some_iff.mp H
  obtain ⟨t1004, A40, H⟩ := H
  replace H : (if t1004 = true then ((some (([false, true] : List Bool) : List Bool)).bind fun y1005 => (chords_Way.l0 k a0 a1 a2 a0 y1005 (y1005.length : Int) 0)) else (some (0, false, 2))) = some (r1, r2, r3) := H
  have A4 := Aside0.mk A40
  clear A40
  by_cases c5 : t1004 = true
  · subst c5
    have H1 : ((some (([false, true] : List Bool) : List Bool)).bind fun y1005 => (chords_Way.l0 k a0 a1 a2 a0 y1005 (y1005.length : Int) 0)) = some (r1, r2, r3) := by rw [if_pos rfl] at H; exact H
    clear H
    have H := H1
    clear H1
    obtain ⟨y1005, hy1005⟩ : ∃ y_ : List Bool, y_ = (([false, true] : List Bool)) := ⟨_, rfl⟩
    replace H : (chords_Way.l0 k a0 a1 a2 a0 y1005 (y1005.length : Int) 0) = some (r1, r2, r3) := by first | (rw [hy1005]; with_reducible exact H) | (have H2_ := (Option.bind_some _ _).symm.trans H; rw [hy1005]; with_reducible exact H2_) | (have H2_ := (Option.bind_some _ _).symm.trans H; with_reducible exact H2_) | with_reducible exact H | (rw [hy1005]; exact H) | exact H
    have Ny1005 := Aside0.mk hy1005
    clear hy1005
    have H' := Aside0.mk H
    clear H
    go_enter Tryd.func24, Tryd.ntmps24
    go_wp2_with (first | ((with_reducible refine gate_dst (N := 17) rfl ?_); refine Kd.R_lit (Kd.int .i64) _ 3 ?hg (N := 17) ?hd (xs := ([a1, a2] : List Int)) (inner := [.int .i64 a1, .int .i64 a2]) (ok := fun _ => True) (okp := fun _ => True) ?hr ?hp (fun _ hk => hk) trivial (Below.refl _ _) (Nat.le_refl _) (by simp) ?_; (case hd => rfl); (case hg => rfl); (case hr => first | (go_simp; done) | (go_simp; rfl)); (case hp => exact (Reps.one (show Kd.M (Kd.int .i64) _ _ _ a1 [.int .i64 a1] from rfl) (Reps.one (show Kd.M (Kd.int .i64) _ _ _ a2 [.int .i64 a2] from rfl) (Reps.none _ _)))); intro v1002 w6 ho7 hb hg_ hnew_; clear hg_ hnew_; (first | rw [← Ny1001.out] at ho7 | (simp only [Int.reduceToNat] at ho7; rw [← Ny1001.out] at ho7)); have n0_ := Aside0.mk (Kd.R_lower ho7 (below_size (by repeat (first | (with_reducible first | exact HB.out | apply below_alloc | apply pw_below_drewN | apply below_drew1) | exact HB.out)))); have n1_ := Aside0.mk (below_step (by repeat (first | (with_reducible first | exact HB.out | apply below_alloc | apply pw_below_drewN | apply below_drew1) | exact HB.out)) hb); clear HB; have HO1003 := n0_; have HB := n1_; clear n0_ n1_; clear hb ho7; obtain ⟨Ao8, co8, eo8⟩ := Kd.R_slice HO1003.out; subst eo8) | ((with_reducible refine gate_callee (f := 41) rfl ?_); refine goesL_ (some 18) rfl rfl Tryd.func41 (by kernel_rfl) rfl #[.int .i64 a0, .slice Ao8 y1001.length co8] rfl (by (try simp only [List.map_toArray, List.map_cons, List.map_nil]); first | done | rfl | (simp only [List.length_drop, List.length_take]; rfl)) ?_; (with_reducible refine (chords_circle_valid.calls a0 _ _ y1001 true _ ?side1 ?side2 A4.out).mono ?_); (case side1 => repeat (first | exact (Kd.R_reads' HO1003.out).2.2 | (with_reducible refine Kd.C_alloc ?_ _) | (with_reducible refine Kd.C_drewN ?_ _) | (with_reducible refine Kd.C_drew ?_))); (case side2 => exact (Kd.R_reads' HO1003.out).2.1); rintro e w9 ⟨rfl, hb⟩; refine ⟨_, rfl, ?_⟩; have n0_ := Aside0.mk (Kd.R_below (by (with_reducible repeat (first | apply Kd.R_alloc | apply Kd.R_drewN | apply Kd.R_drew)); exact HO1003.out) hb); have n1_ := Aside0.mk (below_step (by repeat (first | (with_reducible first | exact HB.out | apply below_alloc | apply pw_below_drewN | apply below_drew1) | exact HB.out)) hb); clear HO1003; clear HB; have HO1003 := n0_; have HB := n1_; clear n0_ n1_; (try clear hb); (try clear hb2); (try clear hk); (try clear hi)) | ((with_reducible refine gate_dst (N := 20) rfl ?_); refine Kd.R_lit Kd.bool _ 4 ?hg (N := 20) ?hd (xs := ([false, true] : List Bool)) (inner := [.bool false, .bool true]) (ok := fun _ => True) (okp := fun _ => True) ?hr ?hp (fun _ hk => hk) trivial (Below.refl _ _) (Nat.le_refl _) (by simp) ?_; (case hd => rfl); (case hg => rfl); (case hr => first | (go_simp; done) | (go_simp; rfl)); (case hp => exact (Reps.one (show Kd.M Kd.bool _ _ _ false [.bool false] from rfl) (Reps.one (show Kd.M Kd.bool _ _ _ true [.bool true] from rfl) (Reps.none _ _)))); intro v1006 w10 ho11 hb hg_ hnew_; clear hg_ hnew_; (first | rw [← Ny1005.out] at ho11 | (simp only [Int.reduceToNat] at ho11; rw [← Ny1005.out] at ho11)); have n0_ := Aside0.mk (Kd.R_below (by (with_reducible repeat (first | apply Kd.R_alloc | apply Kd.R_drewN | apply Kd.R_drew)); exact HO1003.out) hb); have n1_ := Aside0.mk (Kd.R_lower ho11 (below_size (by repeat (first | (with_reducible first | exact HB.out | apply below_alloc | apply pw_below_drewN | apply below_drew1) | exact HB.out)))); have n2_ := Aside0.mk (below_step (by repeat (first | (with_reducible first | exact HB.out | apply below_alloc | apply pw_below_drewN | apply below_drew1) | exact HB.out)) hb); clear HO1003; clear HB; have HO1003 := n0_; have HO1007 := n1_; have HB := n2_; clear n0_ n1_ n2_; clear hb ho11; obtain ⟨Ao12, co12, eo12⟩ := Kd.R_slice HO1007.out; subst eo12))
    go_loopg [1, 22] k (fun kq v1 v22 w' => ∃ (x1_1 : Int) (x22_1 : Int), v1 = .int .i64 x1_1 ∧ v22 = .int .i64 x22_1 ∧ Aside0 (chords_Way.l0 kq a0 x1_1 a2 a0 y1005 (y1005.length : Int) x22_1 = some (r1, r2, r3)) ∧ Aside0 (kq ≤ k) ∧ Aside0 (Kd.R Kd.bool 4 w' w.heap.size (fun _ => True) (.slice Ao12 y1005.length co12) y1005) ∧ Aside0 (Below w.heap.size w w'))
    case atStart => exact ⟨(a1), (0), (by first | rfl | (simp; done) | (simp [*]; done)), (by first | rfl | (simp; done) | (simp [*]; done)), H', ⟨Nat.le_refl _⟩, ⟨by (with_reducible repeat (first | apply Kd.R_alloc | apply Kd.R_drewN | apply Kd.R_drew)); exact HO1007.out⟩, ⟨by repeat (first | (with_reducible first | exact HB.out | apply below_alloc | apply pw_below_drewN | apply below_drew1) | exact HB.out)⟩⟩
    case round =>
      clear H'
      try clear c2
      try clear p2
      try clear c4
      try clear c5
      obtain ⟨x1_1, x22_1, rfl, rfl, HA, HK1, HO_20, HB⟩ := hrel
      cases gk with
      | zero => exact absurd HA.out (by simp [chords_Way.l0])
      | succ k1 =>
        have H := HA.out
        clear HA
        simp only [chords_Way.l0] at H
        by_cases c13 : x22_1 < (y1005.length : Int)
        · rw [if_pos c13] at H
          have c13b0 : decide (x22_1 < (y1005.length : Int)) = true := decide_eq_true c13
          clear c13
          by_cases c14 : 0 ≤ x22_1
          · rw [if_pos c14] at H
            have c14b0 : decide (0 ≤ x22_1) = true := decide_eq_true c14
            clear c14
            by_cases c15 : x22_1 < (y1005.length : Int)
            · rw [if_pos c15] at H
              have c15b0 : decide (x22_1 < (y1005.length : Int)) = true := decide_eq_true c15
              clear c15
              have HC16 := Aside0.mk H
              clear H
              have p1008 : 0 ≤ (x22_1 : Int) := of_decide_eq_true (by first | (with_reducible assumption) | assumption)
              have q1008 : x22_1 < (y1005.length : Int) := of_decide_eq_true (by first | (with_reducible assumption) | assumption)
              obtain ⟨ad1008, e1008, hx1008_0⟩ := Kd.at_bool (Kd.R_reads' HO_20.out).2.2 x22_1 p1008 q1008
              cases e1008
              generalize hgb_ : rdOf false y1005 x22_1 = bqz_ at HC16 hx1008_0
              clear hgb_
              replace p1008 := eq_true p1008
              replace q1008 := eq_true q1008
              go_upto_if 26 with (fail)
              go_cut [1] (fun v1 wc => ∃ (kq : Nat) (x1_15 : Int), v1 = .int .i64 x1_15 ∧ Aside0 (chords_Way.j1 kq a0 x1_15 a2 a0 bqz_ y1005 (y1005.length : Int) x22_1 = some (r1, r2, r3)) ∧ Aside0 (kq ≤ k1) ∧ Aside0 (Kd.R Kd.bool 4 wc w.heap.size (fun _ => True) (.slice (some ad1008) y1005.length co12) y1005) ∧ Aside0 (Below w.heap.size w wc))
              case first =>
                have H := HC16.out
                clear HC16
                replace H : (if bqz_ = true then ((chords_circle_turn.f a0 x1_1).bind fun t1009 => (chords_Way.j1 k1 a0 t1009 a2 a0 bqz_ y1005 (y1005.length : Int) x22_1)) else (chords_Way.j1 k1 a0 x1_1 a2 a0 bqz_ y1005 (y1005.length : Int) x22_1)) = some (r1, r2, r3) := by exact H
                by_cases c18 : bqz_ = true
                · subst c18
                  have H1 : ((chords_circle_turn.f a0 x1_1).bind fun t1009 => (chords_Way.j1 k1 a0 t1009 a2 a0 true y1005 (y1005.length : Int) x22_1)) = some (r1, r2, r3) := by rw [if_pos rfl] at H; exact H
                  clear H
                  have H := H1
                  clear H1
                  replace H := Option.bind_eq_some_iff.mp H
                  obtain ⟨t1009, A190, H⟩ := H
                  replace H : (chords_Way.j1 k1 a0 t1009 a2 a0 true y1005 (y1005.length : Int) x22_1) = some (r1, r2, r3) := H
                  have A19 := Aside0.mk A190
                  clear A190
                  have H' := Aside0.mk H
                  clear H
                  go_wp2_with (first | ((with_reducible refine gate_callee (f := 43) rfl ?_); refine goesL_ (some 29) rfl rfl Tryd.func43 (by kernel_rfl) rfl #[.int .i64 a0, .int .i64 x1_1] rfl (by (try simp only [List.map_toArray, List.map_cons, List.map_nil]); first | done | rfl | (simp only [List.length_drop, List.length_take]; rfl)) ?_; (with_reducible refine (chords_circle_turn.calls a0 x1_1 t1009 _ ?side1 A19.out).mono ?_); (case side1 => exact Tabs.below HT0.out (by repeat (first | (with_reducible first | exact HB.out | apply below_alloc | apply pw_below_drewN | apply below_drew1) | exact HB.out))); rintro e w20 ⟨rfl, hb⟩; refine ⟨_, rfl, ?_⟩; have n0_ := Aside0.mk (Kd.R_below (by (with_reducible repeat (first | apply Kd.R_alloc | apply Kd.R_drewN | apply Kd.R_drew)); exact HO_20.out) hb); have n1_ := Aside0.mk (below_step (by repeat (first | (with_reducible first | exact HB.out | apply below_alloc | apply pw_below_drewN | apply below_drew1) | exact HB.out)) hb); clear HO_20; clear HB; have HO_20 := n0_; have HB := n1_; clear n0_ n1_; (try clear hb); (try clear hb2); (try clear hk); (try clear hi)))
                  go_meet
                  case rel => exact ⟨_, (t1009), (by first | rfl | (simp; done) | (simp [*]; done)), H', ⟨by have := HK1.out; first | omega | exact Nat.le_refl _⟩, ⟨by (with_reducible repeat (first | apply Kd.R_alloc | apply Kd.R_drewN | apply Kd.R_drew)); exact HO_20.out⟩, ⟨by repeat (first | (with_reducible first | exact HB.out | apply below_alloc | apply pw_below_drewN | apply below_drew1) | exact HB.out)⟩⟩
                · replace c18 := Bool.eq_false_iff.mpr c18
                  subst c18
                  have H1 : (chords_Way.j1 k1 a0 x1_1 a2 a0 false y1005 (y1005.length : Int) x22_1) = some (r1, r2, r3) := by rw [if_neg (show ¬ (false = true) by decide)] at H; exact H
                  clear H
                  have H := H1
                  clear H1
                  have H' := Aside0.mk H
                  clear H
                  go_wp2
                  go_meet
                  case rel => exact ⟨_, (x1_1), (by first | rfl | (simp; done) | (simp [*]; done)), H', ⟨by have := HK1.out; first | omega | exact Nat.le_refl _⟩, ⟨by (with_reducible repeat (first | apply Kd.R_alloc | apply Kd.R_drewN | apply Kd.R_drew)); exact HO_20.out⟩, ⟨by repeat (first | (with_reducible first | exact HB.out | apply below_alloc | apply pw_below_drewN | apply below_drew1) | exact HB.out)⟩⟩
              case rest =>
                clear HC16
                try clear c1
                try clear p1
                try clear q1
                try clear hx1
                try clear c2
                try clear p2
                try clear c4
                try clear c5
                try clear p10
                try clear q10
                try clear hx10
                try clear c13
                try clear c13b0
                try clear c14
                try clear c14b0
                try clear c15
                try clear c15b0
                try clear q17
                try clear c18
                try clear hx1008_0
                try clear p1008
                try clear p2
                try clear q1008
                obtain ⟨kq, x1_15, rfl, HA, HJ15, HO_20, HB⟩ := hcut
                cases kq with
                | zero => exact absurd HA.out (by simp [chords_Way.j1])
                | succ kj15 =>
                  have H := HA.out
                  clear HA
                  simp only [chords_Way.j1] at H
                  have H' := Aside0.mk H
                  clear H
                  go_wp2
                  go_loopg [31] kj15 (fun kq v31 w' => ∃ (x31_3 : Int), v31 = .int .i64 x31_3 ∧ Aside0 (chords_Way.l1 kq a0 x1_15 a2 a0 bqz_ y1005 (y1005.length : Int) x22_1 a0 x31_3 = some (r1, r2, r3)) ∧ Aside0 (kq ≤ kj15) ∧ Aside0 (Kd.R Kd.bool 4 w' w.heap.size (fun _ => True) (.slice (some ad1008) y1005.length co12) y1005) ∧ Aside0 (Below w.heap.size w w'))
                  case atStart => exact ⟨(0), (by first | rfl | (simp; done) | (simp [*]; done)), H', ⟨Nat.le_refl _⟩, ⟨by (with_reducible repeat (first | apply Kd.R_alloc | apply Kd.R_drewN | apply Kd.R_drew)); exact HO_20.out⟩, ⟨by repeat (first | (with_reducible first | exact HB.out | apply below_alloc | apply pw_below_drewN | apply below_drew1) | exact HB.out)⟩⟩
                  case round =>
                    clear H'
                    try clear c1
                    try clear p1
                    try clear q1
                    try clear hx1
                    try clear c2
                    try clear p2
                    try clear c4
                    try clear c5
                    try clear p10
                    try clear q10
                    try clear hx10
                    try clear c13
                    try clear c13b0
                    try clear c14
                    try clear c14b0
                    try clear c15
                    try clear c15b0
                    try clear q17
                    try clear c18
                    try clear hx1008_0
                    try clear p1
                    try clear p10
                    try clear p1008
                    try clear p2
                    try clear q1
                    try clear q10
                    try clear q1008
                    try clear q17
                    obtain ⟨x31_3, rfl, HA, HK3, HO_20, HB⟩ := hrel
                    cases gk with
                    | zero => exact absurd HA.out (by simp [chords_Way.l1])
                    | succ k3 =>
                      have H := HA.out
                      clear HA
                      simp only [chords_Way.l1] at H
                      by_cases c21 : x31_3 < a0
                      · rw [if_pos c21] at H
                        have c21b0 : decide (x31_3 < a0) = true := decide_eq_true c21
                        clear c21
                        replace H := Option.bind_eq_some_iff.mp H
                        obtain ⟨t1010, A220, H⟩ := H
                        replace H : (if t1010 = a2 then (some (x31_3, bqz_, 0)) else (chords_Way.l1 k3 a0 x1_15 a2 a0 bqz_ y1005 (y1005.length : Int) x22_1 a0 (wrap64 (x31_3 + 1)))) = some (r1, r2, r3) := H
                        have A22 := Aside0.mk A220
                        clear A220
                        by_cases c23 : t1010 = a2
                        · rw [if_pos c23] at H
                          have c23b0 : (t1010 == a2) = true := beq_iff_eq.mpr c23
                          have c23b1 : (t1010 != a2) = false := bne_eq_false_iff_eq.mpr c23
                          clear c23
                          simp only [Option.some.injEq, Prod.mk.injEq] at H
                          obtain ⟨rfl, rfl, rfl⟩ := H
                          go_wp2_with (first | ((with_reducible refine gate_callee (f := 42) rfl ?_); refine goesL_ (some 37) rfl rfl Tryd.func42 (by kernel_rfl) rfl #[.int .i64 a0, .int .i64 x1_15, .int .i64 x31_3] rfl (by (try simp only [List.map_toArray, List.map_cons, List.map_nil]); first | done | rfl | (simp only [List.length_drop, List.length_take]; rfl)) ?_; (with_reducible refine (chords_circle_move.calls a0 x1_15 x31_3 t1010 _ A22.out).mono ?_); rintro e w' ⟨rfl, ⟨nd, rfl⟩⟩; refine ⟨_, rfl, ?_⟩))
                          go_ret3
                          exact ⟨by first | rfl | (simp [errW_none, errW_some] <;> rfl) | (simp [*, errW_none, errW_some] <;> rfl), by repeat (first | (with_reducible first | exact HB.out | apply below_alloc | apply pw_below_drewN | apply below_drew1) | exact HB.out)⟩
                        · rw [if_neg c23] at H
                          have c23b0 : (t1010 == a2) = false := beq_eq_false_iff_ne.mpr c23
                          have c23b1 : (t1010 != a2) = true := bne_iff_ne.mpr c23
                          have H' := Aside0.mk H
                          clear H
                          go_wp2_with (first | ((with_reducible refine gate_callee (f := 42) rfl ?_); refine goesL_ (some 37) rfl rfl Tryd.func42 (by kernel_rfl) rfl #[.int .i64 a0, .int .i64 x1_15, .int .i64 x31_3] rfl (by (try simp only [List.map_toArray, List.map_cons, List.map_nil]); first | done | rfl | (simp only [List.length_drop, List.length_take]; rfl)) ?_; (with_reducible refine (chords_circle_move.calls a0 x1_15 x31_3 t1010 _ A22.out).mono ?_); rintro e w' ⟨rfl, ⟨nd, rfl⟩⟩; refine ⟨_, rfl, ?_⟩))
                          go_roundg k3
                          case measure => have := HK1.out; have := HJ15.out; have := HK3.out; omega
                          case rel => exact ⟨(wrap64 (x31_3 + 1)), (by first | rfl | (simp; done) | (simp [*]; done)), H', ⟨by have := HK1.out; have := HJ15.out; have := HK3.out; omega⟩, ⟨by (with_reducible repeat (first | apply Kd.R_alloc | apply Kd.R_drewN | apply Kd.R_drew)); exact HO_20.out⟩, ⟨by repeat (first | (with_reducible first | exact HB.out | apply below_alloc | apply pw_below_drewN | apply below_drew1) | exact HB.out)⟩⟩
                      · rw [if_neg c21] at H
                        have c21b0 : decide (x31_3 < a0) = false := decide_eq_false c21
                        clear c21
                        have H' := Aside0.mk H
                        clear H
                        go_wp2
                        go_roundg k3
                        case measure => have := HK1.out; have := HJ15.out; have := HK3.out; omega
                        case rel => exact ⟨(x1_15), (wrap64 (x22_1 + 1)), (by first | rfl | (simp; done) | (simp [*]; done)), (by first | rfl | (simp; done) | (simp [*]; done)), H', ⟨by have := HK1.out; have := HJ15.out; have := HK3.out; omega⟩, ⟨by (with_reducible repeat (first | apply Kd.R_alloc | apply Kd.R_drewN | apply Kd.R_drew)); exact HO_20.out⟩, ⟨by repeat (first | (with_reducible first | exact HB.out | apply below_alloc | apply pw_below_drewN | apply below_drew1) | exact HB.out)⟩⟩
            · rw [if_neg c15] at H
              exact absurd H (by simp)
          · rw [if_neg c14] at H
            exact absurd H (by simp)
        · rw [if_neg c13] at H
          have c13b0 : decide (x22_1 < (y1005.length : Int)) = false := decide_eq_false c13
          clear c13
          simp only [Option.some.injEq, Prod.mk.injEq] at H
          obtain ⟨rfl, rfl, rfl⟩ := H
          go_wp2
          go_ret3
          exact ⟨by first | rfl | (simp [errW_none, errW_some] <;> rfl) | (simp [*, errW_none, errW_some] <;> rfl), by repeat (first | (with_reducible first | exact HB.out | apply below_alloc | apply pw_below_drewN | apply below_drew1) | exact HB.out)⟩
  · replace c5 := Bool.eq_false_iff.mpr c5
    subst c5
    have H1 : (some (0, false, 2)) = some (r1, r2, r3) := by rw [if_neg (show ¬ (false = true) by decide)] at H; exact H
    clear H
    have H := H1
    clear H1
    simp only [Option.some.injEq, Prod.mk.injEq] at H
    obtain ⟨rfl, rfl, rfl⟩ := H
    go_enter Tryd.func24, Tryd.ntmps24
    go_wp2_with (first | ((with_reducible refine gate_dst (N := 17) rfl ?_); refine Kd.R_lit (Kd.int .i64) _ 3 ?hg (N := 17) ?hd (xs := ([a1, a2] : List Int)) (inner := [.int .i64 a1, .int .i64 a2]) (ok := fun _ => True) (okp := fun _ => True) ?hr ?hp (fun _ hk => hk) trivial (Below.refl _ _) (Nat.le_refl _) (by simp) ?_; (case hd => rfl); (case hg => rfl); (case hr => first | (go_simp; done) | (go_simp; rfl)); (case hp => exact (Reps.one (show Kd.M (Kd.int .i64) _ _ _ a1 [.int .i64 a1] from rfl) (Reps.one (show Kd.M (Kd.int .i64) _ _ _ a2 [.int .i64 a2] from rfl) (Reps.none _ _)))); intro v1002 w24 ho25 hb hg_ hnew_; clear hg_ hnew_; (first | rw [← Ny1001.out] at ho25 | (simp only [Int.reduceToNat] at ho25; rw [← Ny1001.out] at ho25)); have n0_ := Aside0.mk (Kd.R_lower ho25 (below_size (by repeat (first | (with_reducible first | exact HB.out | apply below_alloc | apply pw_below_drewN | apply below_drew1) | exact HB.out)))); have n1_ := Aside0.mk (below_step (by repeat (first | (with_reducible first | exact HB.out | apply below_alloc | apply pw_below_drewN | apply below_drew1) | exact HB.out)) hb); clear HB; have HO1003 := n0_; have HB := n1_; clear n0_ n1_; clear hb ho25; obtain ⟨Ao26, co26, eo26⟩ := Kd.R_slice HO1003.out; subst eo26) | ((with_reducible refine gate_callee (f := 41) rfl ?_); refine goesL_ (some 18) rfl rfl Tryd.func41 (by kernel_rfl) rfl #[.int .i64 a0, .slice Ao26 y1001.length co26] rfl (by (try simp only [List.map_toArray, List.map_cons, List.map_nil]); first | done | rfl | (simp only [List.length_drop, List.length_take]; rfl)) ?_; (with_reducible refine (chords_circle_valid.calls a0 _ _ y1001 false _ ?side1 ?side2 A4.out).mono ?_); (case side1 => repeat (first | exact (Kd.R_reads' HO1003.out).2.2 | (with_reducible refine Kd.C_alloc ?_ _) | (with_reducible refine Kd.C_drewN ?_ _) | (with_reducible refine Kd.C_drew ?_))); (case side2 => exact (Kd.R_reads' HO1003.out).2.1); rintro e w27 ⟨rfl, hb⟩; refine ⟨_, rfl, ?_⟩; have n0_ := Aside0.mk (Kd.R_below (by (with_reducible repeat (first | apply Kd.R_alloc | apply Kd.R_drewN | apply Kd.R_drew)); exact HO1003.out) hb); have n1_ := Aside0.mk (below_step (by repeat (first | (with_reducible first | exact HB.out | apply below_alloc | apply pw_below_drewN | apply below_drew1) | exact HB.out)) hb); clear HO1003; clear HB; have HO1003 := n0_; have HB := n1_; clear n0_ n1_; (try clear hb); (try clear hb2); (try clear hk); (try clear hi)))
    go_ret3
    exact ⟨by first | rfl | (simp [errW_none, errW_some] <;> rfl) | (simp [*, errW_none, errW_some] <;> rfl), by repeat (first | (with_reducible first | exact HB.out | apply below_alloc | apply pw_below_drewN | apply below_drew1) | exact HB.out)⟩

end Go.Proofs.YtnjmiodnkjabgaaDoor.P
namespace Go.Proofs.YtnjmiodnkjabgaaDoor.P
open Go.RowKit Go.Proofs.YtnjmiodnkjabgaaDoorW.PrintWords Go.Proofs.YtnjmiodnkjabgaaDoorW.PrintLast Go.Proofs.YtnjmiodnkjabgaaDoorW.PrintMore
attribute [local go_sem] max2_int min2_int max_two min_two max_three min_three max_four min_four   -- for this text's walks alone
set_option linter.unusedVariables false
set_option linter.unusedSimpArgs false

/-! ### bits_OnesCount64: function 78 -/
def bits_OnesCount64.f (a0 : Int) : Option (Int) := some (Go.bits .and .i64 (wrap64 (IntKind.u64.wrap ((IntKind.u64.wrap ((IntKind.u64.wrap ((Go.bits .and .u64 (IntKind.u64.wrap (((IntKind.u64.wrap ((Go.bits .and .u64 ((IntKind.u64.wrap ((Go.bits .and .u64 (a0 / 2) 6148914691236517205) + (Go.bits .and .u64 a0 6148914691236517205))) / 4) 3689348814741910323) + (Go.bits .and .u64 (IntKind.u64.wrap ((Go.bits .and .u64 (a0 / 2) 6148914691236517205) + (Go.bits .and .u64 a0 6148914691236517205))) 3689348814741910323))) / 16) + (IntKind.u64.wrap ((Go.bits .and .u64 ((IntKind.u64.wrap ((Go.bits .and .u64 (a0 / 2) 6148914691236517205) + (Go.bits .and .u64 a0 6148914691236517205))) / 4) 3689348814741910323) + (Go.bits .and .u64 (IntKind.u64.wrap ((Go.bits .and .u64 (a0 / 2) 6148914691236517205) + (Go.bits .and .u64 a0 6148914691236517205))) 3689348814741910323))))) 1085102592571150095) + ((Go.bits .and .u64 (IntKind.u64.wrap (((IntKind.u64.wrap ((Go.bits .and .u64 ((IntKind.u64.wrap ((Go.bits .and .u64 (a0 / 2) 6148914691236517205) + (Go.bits .and .u64 a0 6148914691236517205))) / 4) 3689348814741910323) + (Go.bits .and .u64 (IntKind.u64.wrap ((Go.bits .and .u64 (a0 / 2) 6148914691236517205) + (Go.bits .and .u64 a0 6148914691236517205))) 3689348814741910323))) / 16) + (IntKind.u64.wrap ((Go.bits .and .u64 ((IntKind.u64.wrap ((Go.bits .and .u64 (a0 / 2) 6148914691236517205) + (Go.bits .and .u64 a0 6148914691236517205))) / 4) 3689348814741910323) + (Go.bits .and .u64 (IntKind.u64.wrap ((Go.bits .and .u64 (a0 / 2) 6148914691236517205) + (Go.bits .and .u64 a0 6148914691236517205))) 3689348814741910323))))) 1085102592571150095) / 256))) + ((IntKind.u64.wrap ((Go.bits .and .u64 (IntKind.u64.wrap (((IntKind.u64.wrap ((Go.bits .and .u64 ((IntKind.u64.wrap ((Go.bits .and .u64 (a0 / 2) 6148914691236517205) + (Go.bits .and .u64 a0 6148914691236517205))) / 4) 3689348814741910323) + (Go.bits .and .u64 (IntKind.u64.wrap ((Go.bits .and .u64 (a0 / 2) 6148914691236517205) + (Go.bits .and .u64 a0 6148914691236517205))) 3689348814741910323))) / 16) + (IntKind.u64.wrap ((Go.bits .and .u64 ((IntKind.u64.wrap ((Go.bits .and .u64 (a0 / 2) 6148914691236517205) + (Go.bits .and .u64 a0 6148914691236517205))) / 4) 3689348814741910323) + (Go.bits .and .u64 (IntKind.u64.wrap ((Go.bits .and .u64 (a0 / 2) 6148914691236517205) + (Go.bits .and .u64 a0 6148914691236517205))) 3689348814741910323))))) 1085102592571150095) + ((Go.bits .and .u64 (IntKind.u64.wrap (((IntKind.u64.wrap ((Go.bits .and .u64 ((IntKind.u64.wrap ((Go.bits .and .u64 (a0 / 2) 6148914691236517205) + (Go.bits .and .u64 a0 6148914691236517205))) / 4) 3689348814741910323) + (Go.bits .and .u64 (IntKind.u64.wrap ((Go.bits .and .u64 (a0 / 2) 6148914691236517205) + (Go.bits .and .u64 a0 6148914691236517205))) 3689348814741910323))) / 16) + (IntKind.u64.wrap ((Go.bits .and .u64 ((IntKind.u64.wrap ((Go.bits .and .u64 (a0 / 2) 6148914691236517205) + (Go.bits .and .u64 a0 6148914691236517205))) / 4) 3689348814741910323) + (Go.bits .and .u64 (IntKind.u64.wrap ((Go.bits .and .u64 (a0 / 2) 6148914691236517205) + (Go.bits .and .u64 a0 6148914691236517205))) 3689348814741910323))))) 1085102592571150095) / 256))) / 65536))) + ((IntKind.u64.wrap ((IntKind.u64.wrap ((Go.bits .and .u64 (IntKind.u64.wrap (((IntKind.u64.wrap ((Go.bits .and .u64 ((IntKind.u64.wrap ((Go.bits .and .u64 (a0 / 2) 6148914691236517205) + (Go.bits .and .u64 a0 6148914691236517205))) / 4) 3689348814741910323) + (Go.bits .and .u64 (IntKind.u64.wrap ((Go.bits .and .u64 (a0 / 2) 6148914691236517205) + (Go.bits .and .u64 a0 6148914691236517205))) 3689348814741910323))) / 16) + (IntKind.u64.wrap ((Go.bits .and .u64 ((IntKind.u64.wrap ((Go.bits .and .u64 (a0 / 2) 6148914691236517205) + (Go.bits .and .u64 a0 6148914691236517205))) / 4) 3689348814741910323) + (Go.bits .and .u64 (IntKind.u64.wrap ((Go.bits .and .u64 (a0 / 2) 6148914691236517205) + (Go.bits .and .u64 a0 6148914691236517205))) 3689348814741910323))))) 1085102592571150095) + ((Go.bits .and .u64 (IntKind.u64.wrap (((IntKind.u64.wrap ((Go.bits .and .u64 ((IntKind.u64.wrap ((Go.bits .and .u64 (a0 / 2) 6148914691236517205) + (Go.bits .and .u64 a0 6148914691236517205))) / 4) 3689348814741910323) + (Go.bits .and .u64 (IntKind.u64.wrap ((Go.bits .and .u64 (a0 / 2) 6148914691236517205) + (Go.bits .and .u64 a0 6148914691236517205))) 3689348814741910323))) / 16) + (IntKind.u64.wrap ((Go.bits .and .u64 ((IntKind.u64.wrap ((Go.bits .and .u64 (a0 / 2) 6148914691236517205) + (Go.bits .and .u64 a0 6148914691236517205))) / 4) 3689348814741910323) + (Go.bits .and .u64 (IntKind.u64.wrap ((Go.bits .and .u64 (a0 / 2) 6148914691236517205) + (Go.bits .and .u64 a0 6148914691236517205))) 3689348814741910323))))) 1085102592571150095) / 256))) + ((IntKind.u64.wrap ((Go.bits .and .u64 (IntKind.u64.wrap (((IntKind.u64.wrap ((Go.bits .and .u64 ((IntKind.u64.wrap ((Go.bits .and .u64 (a0 / 2) 6148914691236517205) + (Go.bits .and .u64 a0 6148914691236517205))) / 4) 3689348814741910323) + (Go.bits .and .u64 (IntKind.u64.wrap ((Go.bits .and .u64 (a0 / 2) 6148914691236517205) + (Go.bits .and .u64 a0 6148914691236517205))) 3689348814741910323))) / 16) + (IntKind.u64.wrap ((Go.bits .and .u64 ((IntKind.u64.wrap ((Go.bits .and .u64 (a0 / 2) 6148914691236517205) + (Go.bits .and .u64 a0 6148914691236517205))) / 4) 3689348814741910323) + (Go.bits .and .u64 (IntKind.u64.wrap ((Go.bits .and .u64 (a0 / 2) 6148914691236517205) + (Go.bits .and .u64 a0 6148914691236517205))) 3689348814741910323))))) 1085102592571150095) + ((Go.bits .and .u64 (IntKind.u64.wrap (((IntKind.u64.wrap ((Go.bits .and .u64 ((IntKind.u64.wrap ((Go.bits .and .u64 (a0 / 2) 6148914691236517205) + (Go.bits .and .u64 a0 6148914691236517205))) / 4) 3689348814741910323) + (Go.bits .and .u64 (IntKind.u64.wrap ((Go.bits .and .u64 (a0 / 2) 6148914691236517205) + (Go.bits .and .u64 a0 6148914691236517205))) 3689348814741910323))) / 16) + (IntKind.u64.wrap ((Go.bits .and .u64 ((IntKind.u64.wrap ((Go.bits .and .u64 (a0 / 2) 6148914691236517205) + (Go.bits .and .u64 a0 6148914691236517205))) / 4) 3689348814741910323) + (Go.bits .and .u64 (IntKind.u64.wrap ((Go.bits .and .u64 (a0 / 2) 6148914691236517205) + (Go.bits .and .u64 a0 6148914691236517205))) 3689348814741910323))))) 1085102592571150095) / 256))) / 65536))) / 4294967296)))) 127)
set_option maxHeartbeats 8000000 in
set_option maxRecDepth 100000 in
theorem bits_OnesCount64.calls (a0 : Int) (r : Int) (w : World) (h : bits_OnesCount64.f a0 = some r) :
    Calls Tryd.prog 78 #[.int .u64 a0] w fun e w' => e = .returned (.int .i64 r) ∧ Drawn0 w w' := by
  have H : (some (Go.bits .and .i64 (wrap64 (IntKind.u64.wrap ((IntKind.u64.wrap ((IntKind.u64.wrap ((Go.bits .and .u64 (IntKind.u64.wrap (((IntKind.u64.wrap ((Go.bits .and .u64 ((IntKind.u64.wrap ((Go.bits .and .u64 (a0 / 2) 6148914691236517205) + (Go.bits .and .u64 a0 6148914691236517205))) / 4) 3689348814741910323) + (Go.bits .and .u64 (IntKind.u64.wrap ((Go.bits .and .u64 (a0 / 2) 6148914691236517205) + (Go.bits .and .u64 a0 6148914691236517205))) 3689348814741910323))) / 16) + (IntKind.u64.wrap ((Go.bits .and .u64 ((IntKind.u64.wrap ((Go.bits .and .u64 (a0 / 2) 6148914691236517205) + (Go.bits .and .u64 a0 6148914691236517205))) / 4) 3689348814741910323) + (Go.bits .and .u64 (IntKind.u64.wrap ((Go.bits .and .u64 (a0 / 2) 6148914691236517205) + (Go.bits .and .u64 a0 6148914691236517205))) 3689348814741910323))))) 1085102592571150095) + ((Go.bits .and .u64 (IntKind.u64.wrap (((IntKind.u64.wrap ((Go.bits .and .u64 ((IntKind.u64.wrap ((Go.bits .and .u64 (a0 / 2) 6148914691236517205) + (Go.bits .and .u64 a0 6148914691236517205))) / 4) 3689348814741910323) + (Go.bits .and .u64 (IntKind.u64.wrap ((Go.bits .and .u64 (a0 / 2) 6148914691236517205) + (Go.bits .and .u64 a0 6148914691236517205))) 3689348814741910323))) / 16) + (IntKind.u64.wrap ((Go.bits .and .u64 ((IntKind.u64.wrap ((Go.bits .and .u64 (a0 / 2) 6148914691236517205) + (Go.bits .and .u64 a0 6148914691236517205))) / 4) 3689348814741910323) + (Go.bits .and .u64 (IntKind.u64.wrap ((Go.bits .and .u64 (a0 / 2) 6148914691236517205) + (Go.bits .and .u64 a0 6148914691236517205))) 3689348814741910323))))) 1085102592571150095) / 256))) + ((IntKind.u64.wrap ((Go.bits .and .u64 (IntKind.u64.wrap (((IntKind.u64.wrap ((Go.bits .and .u64 ((IntKind.u64.wrap ((Go.bits .and .u64 (a0 / 2) 6148914691236517205) + (Go.bits .and .u64 a0 6148914691236517205))) / 4) 3689348814741910323) + (Go.bits .and .u64 (IntKind.u64.wrap ((Go.bits .and .u64 (a0 / 2) 6148914691236517205) + (Go.bits .and .u64 a0 6148914691236517205))) 3689348814741910323))) / 16) + (IntKind.u64.wrap ((Go.bits .and .u64 ((IntKind.u64.wrap ((Go.bits .and .u64 (a0 / 2) 6148914691236517205) + (Go.bits .and .u64 a0 6148914691236517205))) / 4) 3689348814741910323) + (Go.bits .and .u64 (IntKind.u64.wrap ((Go.bits .and .u64 (a0 / 2) 6148914691236517205) + (Go.bits .and .u64 a0 6148914691236517205))) 3689348814741910323))))) 1085102592571150095) + ((Go.bits .and .u64 (IntKind.u64.wrap (((IntKind.u64.wrap ((Go.bits .and .u64 ((IntKind.u64.wrap ((Go.bits .and .u64 (a0 / 2) 6148914691236517205) + (Go.bits .and .u64 a0 6148914691236517205))) / 4) 3689348814741910323) + (Go.bits .and .u64 (IntKind.u64.wrap ((Go.bits .and .u64 (a0 / 2) 6148914691236517205) + (Go.bits .and .u64 a0 6148914691236517205))) 3689348814741910323))) / 16) + (IntKind.u64.wrap ((Go.bits .and .u64 ((IntKind.u64.wrap ((Go.bits .and .u64 (a0 / 2) 6148914691236517205) + (Go.bits .and .u64 a0 6148914691236517205))) / 4) 3689348814741910323) + (Go.bits .and .u64 (IntKind.u64.wrap ((Go.bits .and .u64 (a0 / 2) 6148914691236517205) + (Go.bits .and .u64 a0 6148914691236517205))) 3689348814741910323))))) 1085102592571150095) / 256))) / 65536))) + ((IntKind.u64.wrap ((IntKind.u64.wrap ((Go.bits .and .u64 (IntKind.u64.wrap (((IntKind.u64.wrap ((Go.bits .and .u64 ((IntKind.u64.wrap ((Go.bits .and .u64 (a0 / 2) 6148914691236517205) + (Go.bits .and .u64 a0 6148914691236517205))) / 4) 3689348814741910323) + (Go.bits .and .u64 (IntKind.u64.wrap ((Go.bits .and .u64 (a0 / 2) 6148914691236517205) + (Go.bits .and .u64 a0 6148914691236517205))) 3689348814741910323))) / 16) + (IntKind.u64.wrap ((Go.bits .and .u64 ((IntKind.u64.wrap ((Go.bits .and .u64 (a0 / 2) 6148914691236517205) + (Go.bits .and .u64 a0 6148914691236517205))) / 4) 3689348814741910323) + (Go.bits .and .u64 (IntKind.u64.wrap ((Go.bits .and .u64 (a0 / 2) 6148914691236517205) + (Go.bits .and .u64 a0 6148914691236517205))) 3689348814741910323))))) 1085102592571150095) + ((Go.bits .and .u64 (IntKind.u64.wrap (((IntKind.u64.wrap ((Go.bits .and .u64 ((IntKind.u64.wrap ((Go.bits .and .u64 (a0 / 2) 6148914691236517205) + (Go.bits .and .u64 a0 6148914691236517205))) / 4) 3689348814741910323) + (Go.bits .and .u64 (IntKind.u64.wrap ((Go.bits .and .u64 (a0 / 2) 6148914691236517205) + (Go.bits .and .u64 a0 6148914691236517205))) 3689348814741910323))) / 16) + (IntKind.u64.wrap ((Go.bits .and .u64 ((IntKind.u64.wrap ((Go.bits .and .u64 (a0 / 2) 6148914691236517205) + (Go.bits .and .u64 a0 6148914691236517205))) / 4) 3689348814741910323) + (Go.bits .and .u64 (IntKind.u64.wrap ((Go.bits .and .u64 (a0 / 2) 6148914691236517205) + (Go.bits .and .u64 a0 6148914691236517205))) 3689348814741910323))))) 1085102592571150095) / 256))) + ((IntKind.u64.wrap ((Go.bits .and .u64 (IntKind.u64.wrap (((IntKind.u64.wrap ((Go.bits .and .u64 ((IntKind.u64.wrap ((Go.bits .and .u64 (a0 / 2) 6148914691236517205) + (Go.bits .and .u64 a0 6148914691236517205))) / 4) 3689348814741910323) + (Go.bits .and .u64 (IntKind.u64.wrap ((Go.bits .and .u64 (a0 / 2) 6148914691236517205) + (Go.bits .and .u64 a0 6148914691236517205))) 3689348814741910323))) / 16) + (IntKind.u64.wrap ((Go.bits .and .u64 ((IntKind.u64.wrap ((Go.bits .and .u64 (a0 / 2) 6148914691236517205) + (Go.bits .and .u64 a0 6148914691236517205))) / 4) 3689348814741910323) + (Go.bits .and .u64 (IntKind.u64.wrap ((Go.bits .and .u64 (a0 / 2) 6148914691236517205) + (Go.bits .and .u64 a0 6148914691236517205))) 3689348814741910323))))) 1085102592571150095) + ((Go.bits .and .u64 (IntKind.u64.wrap (((IntKind.u64.wrap ((Go.bits .and .u64 ((IntKind.u64.wrap ((Go.bits .and .u64 (a0 / 2) 6148914691236517205) + (Go.bits .and .u64 a0 6148914691236517205))) / 4) 3689348814741910323) + (Go.bits .and .u64 (IntKind.u64.wrap ((Go.bits .and .u64 (a0 / 2) 6148914691236517205) + (Go.bits .and .u64 a0 6148914691236517205))) 3689348814741910323))) / 16) + (IntKind.u64.wrap ((Go.bits .and .u64 ((IntKind.u64.wrap ((Go.bits .and .u64 (a0 / 2) 6148914691236517205) + (Go.bits .and .u64 a0 6148914691236517205))) / 4) 3689348814741910323) + (Go.bits .and .u64 (IntKind.u64.wrap ((Go.bits .and .u64 (a0 / 2) 6148914691236517205) + (Go.bits .and .u64 a0 6148914691236517205))) 3689348814741910323))))) 1085102592571150095) / 256))) / 65536))) / 4294967296)))) 127)) = some r := h
  clear h
  obtain rfl := Option.some.inj H
  go_enter Tryd.func78, Tryd.ntmps78
  go_wp2
  go_ret
  exact ⟨by first | rfl | (simp; done) | (simp [*]; done), by repeat (first | exact Drawn0.refl _ | apply Drawn0.step)⟩

end Go.Proofs.YtnjmiodnkjabgaaDoor.P
namespace Go.Proofs.YtnjmiodnkjabgaaDoor.P
open Go.RowKit Go.Proofs.YtnjmiodnkjabgaaDoorW.PrintWords Go.Proofs.YtnjmiodnkjabgaaDoorW.PrintLast Go.Proofs.YtnjmiodnkjabgaaDoorW.PrintMore
attribute [local go_sem] max2_int min2_int max_two min_two max_three min_three max_four min_four   -- for this text's walks alone
set_option linter.unusedVariables false
set_option linter.unusedSimpArgs false

/-! ### bits_OnesCount: function 67 -/
def bits_OnesCount.f (a0 : Int) : Option (Int) := (bits_OnesCount64.f a0).bind fun t1001 => (some t1001)
set_option maxHeartbeats 8000000 in
set_option maxRecDepth 100000 in
theorem bits_OnesCount.calls (a0 : Int) (r : Int) (w : World) (h : bits_OnesCount.f a0 = some r) :
    Calls Tryd.prog 67 #[.int .u64 a0] w fun e w' => e = .returned (.int .i64 r) ∧ Drawn0 w w' := by
  have H : ((bits_OnesCount64.f a0).bind fun t1001 => (some t1001)) = some r := h
  clear h
  replace H := Option.bind_eq_some_iff.mp H
  obtain ⟨t1001, A20, H⟩ := H
  replace H : (some t1001) = some r := H
  have A2 := Aside0.mk A20
  clear A20
  obtain rfl := Option.some.inj H
  go_enter Tryd.func67, Tryd.ntmps67
  go_wp2_with (first | ((with_reducible refine gate_callee (f := 78) rfl ?_); refine goesL_ (some 7) rfl rfl Tryd.func78 (by kernel_rfl) rfl #[.int .u64 a0] rfl (by (try simp only [List.map_toArray, List.map_cons, List.map_nil]); first | done | rfl | (simp only [List.length_drop, List.length_take]; rfl)) ?_; (with_reducible refine (bits_OnesCount64.calls a0 t1001 _ A2.out).mono ?_); rintro e w' ⟨rfl, ⟨nd, rfl⟩⟩; refine ⟨_, rfl, ?_⟩))
  go_ret
  exact ⟨by first | rfl | (simp; done) | (simp [*]; done), by repeat (first | exact Drawn0.refl _ | apply Drawn0.step)⟩

end Go.Proofs.YtnjmiodnkjabgaaDoor.P
namespace Go.Proofs.YtnjmiodnkjabgaaDoor.P
open Go.RowKit Go.Proofs.YtnjmiodnkjabgaaDoorW.PrintWords Go.Proofs.YtnjmiodnkjabgaaDoorW.PrintLast Go.Proofs.YtnjmiodnkjabgaaDoorW.PrintMore
attribute [local go_sem] max2_int min2_int max_two min_two max_three min_three max_four min_four   -- for this text's walks alone
set_option linter.unusedVariables false
set_option linter.unusedSimpArgs false

/-! ### chords_count: function 50 -/
def chords_count.f (a0 : Int) : Option (Int) := (bits_OnesCount.f (IntKind.u64.wrap (a0))).bind fun t1001 => (some t1001)
set_option maxHeartbeats 8000000 in
set_option maxRecDepth 100000 in
theorem chords_count.calls (a0 : Int) (r : Int) (w : World) (h : chords_count.f a0 = some r) :
    Calls Tryd.prog 50 #[.int .i64 a0] w fun e w' => e = .returned (.int .i64 r) ∧ Drawn0 w w' := by
  have H : ((bits_OnesCount.f (IntKind.u64.wrap (a0))).bind fun t1001 => (some t1001)) = some r := h
  clear h
  replace H := Option.bind_eq_some_iff.mp H
  obtain ⟨t1001, A20, H⟩ := H
  replace H : (some t1001) = some r := H
  have A2 := Aside0.mk A20
  clear A20
  obtain rfl := Option.some.inj H
  go_enter Tryd.func50, Tryd.ntmps50
  go_wp2_with (first | ((with_reducible refine gate_callee (f := 67) rfl ?_); refine goesL_ (some 5) rfl rfl Tryd.func67 (by kernel_rfl) rfl #[.int .u64 (IntKind.u64.wrap (a0))] rfl (by (try simp only [List.map_toArray, List.map_cons, List.map_nil]); first | done | rfl | (simp only [List.length_drop, List.length_take]; rfl)) ?_; (with_reducible refine (bits_OnesCount.calls (IntKind.u64.wrap (a0)) t1001 _ A2.out).mono ?_); rintro e w' ⟨rfl, ⟨nd, rfl⟩⟩; refine ⟨_, rfl, ?_⟩))
  go_ret
  exact ⟨by first | rfl | (simp; done) | (simp [*]; done), by repeat (first | exact Drawn0.refl _ | apply Drawn0.step)⟩

end Go.Proofs.YtnjmiodnkjabgaaDoor.P
namespace Go.Proofs.YtnjmiodnkjabgaaDoor.P
open Go.RowKit Go.Proofs.YtnjmiodnkjabgaaDoorW.PrintWords Go.Proofs.YtnjmiodnkjabgaaDoorW.PrintLast Go.Proofs.YtnjmiodnkjabgaaDoorW.PrintMore
attribute [local go_sem] max2_int min2_int max_two min_two max_three min_three max_four min_four   -- for this text's walks alone
set_option linter.unusedVariables false
set_option linter.unusedSimpArgs false

/-! ### chords_Common: function 25 -/
def chords_Common.l0 : Nat → Int → Int → Int → List Int → Int → Int → Option (List Int × Int)
  | 0, _, _, _, _, _, _ => none
  | k + 1, x1, x2, x8, x9, x18, x19 => if x19 < x18 then ((chords_circle_move.f x8 x2 x19).bind fun t1005 => ((chords_count.f (Go.bits .and .i64 x1 t1005)).bind fun t1006 => (if x9.length < 17592186044416 then (chords_Common.l0 k x1 x2 x8 (x9 ++ [t1006]) x18 (wrap64 (x19 + 1))) else (none)))) else (some (x9, 0))
def chords_Common.f (k : Nat) (a0 : Int) (a1 : Int) (a2 : Int) : Option (List Int × Int) := (chords_circle_valid.f a0 (([a1, a2] : List Int))).bind fun t1004 => (if t1004 = true then (chords_Common.l0 k a1 a2 a0 ([] : List Int) a0 0) else (some (([] : List Int), 2)))
theorem chords_Common.mono_l : ∀ k, (∀ y0 y1 y2 y3 y4 y5, LeO (chords_Common.l0 k y0 y1 y2 y3 y4 y5) (chords_Common.l0 (k + 1) y0 y1 y2 y3 y4 y5))
  | 0 => fun _ _ _ _ _ _ r h => by simp [chords_Common.l0] at h
  | k + 1 => by
    have ih0 := chords_Common.mono_l k
    · intro y0 y1 y2 y3 y4 y5
      unfold chords_Common.l0
      repeat' first
      | (with_reducible exact ih0 _ _ _ _ _ _)
      | (with_reducible exact LeO.refl _)
      | (with_reducible exact LeO.none _)
      | (with_reducible refine LeO.ite ?_ ?_)
      | (with_reducible refine LeO.bind ?_ (fun _ => ?_))
      | exact ih0 _ _ _ _ _ _
      | exact LeO.none _
      | refine LeO.ite ?_ ?_
      | refine LeO.bind ?_ (fun _ => ?_)
theorem chords_Common.mono : ∀ a0 a1 a2 k, LeO (chords_Common.f k a0 a1 a2) (chords_Common.f (k + 1) a0 a1 a2) := by
  intro a0 a1 a2 k
  have ih0 := chords_Common.mono_l k
  unfold chords_Common.f
  repeat' first
      | (with_reducible exact ih0 _ _ _ _ _ _)
      | (with_reducible exact LeO.refl _)
      | (with_reducible exact LeO.none _)
      | (with_reducible refine LeO.ite ?_ ?_)
      | (with_reducible refine LeO.bind ?_ (fun _ => ?_))
      | exact ih0 _ _ _ _ _ _
      | exact LeO.none _
      | refine LeO.ite ?_ ?_
      | refine LeO.bind ?_ (fun _ => ?_)
set_option maxHeartbeats 8000000 in
set_option maxRecDepth 100000 in
theorem chords_Common.calls (k : Nat) (a0 : Int) (a1 : Int) (a2 : Int) (r1 : List Int) (r2 : Int) (w : World) (h : chords_Common.f k a0 a1 a2 = some (r1, r2)) :
    Calls Tryd.prog 25 #[.int .i64 a0, .int .i64 a1, .int .i64 a2] w fun e w' => ∃ v0_ : Value, e = .returned (.tuple #[v0_, .int .i64 r2]) ∧ Kd.R (Kd.int .i64) 3 w' w.heap.size (fun _ => True) v0_ r1 ∧ Below w.heap.size w w' := by
  have HB := Aside0.mk (Below.refl w.heap.size w)
  have H : ((chords_circle_valid.f a0 (([a1, a2] : List Int))).bind fun t1004 => (if t1004 = true then (chords_Common.l0 k a1 a2 a0 ([] : List Int) a0 0) else (some (([] : List Int), 2)))) = some (r1, r2) := h
  clear h
  obtain ⟨y1001, hy1001⟩ : ∃ y_ : List Int, y_ = (([a1, a2] : List Int)) := ⟨_, rfl⟩
  replace H : ((chords_circle_valid.f a0 y1001).bind fun t1004 => (if t1004 = true then (chords_Common.l0 k a1 a2 a0 ([] : List Int) a0 0) else (some (([] : List Int), 2)))) = some (r1, r2) := by first | (rw [hy1001]; with_reducible exact H) | (have H2_ := (Option.bind_some _ _).symm.trans H; rw [hy1001]; with_reducible exact H2_) | (have H2_ := (Option.bind_some _ _).symm.trans H; with_reducible exact H2_) | with_reducible exact H | (rw [hy1001]; exact H) | exact H
  have Ny1001 := Aside0.mk hy1001
  clear hy1001
  replace H := Option.bind_eq_some_iff.mp H
  obtain ⟨t1004, A40, H⟩ := H
  replace H : (if t1004 = true then (chords_Common.l0 k a1 a2 a0 ([] : List Int) a0 0) else (some (([] : List Int), 2))) = some (r1, r2) := H
  have A4 := Aside0.mk A40
  clear A40
  by_cases c5 : t1004 = true
  · subst c5
    have H1 : (chords_Common.l0 k a1 a2 a0 ([] : List Int) a0 0) = some (r1, r2) := by rw [if_pos rfl] at H; exact H
    clear H
    have H := H1
    clear H1
    have H' := Aside0.mk H
    clear H
    go_enter Tryd.func25, Tryd.ntmps25
    go_wp2_with (first | ((with_reducible refine gate_dst (N := 15) rfl ?_); refine Kd.R_lit (Kd.int .i64) _ 3 ?hg (N := 15) ?hd (xs := ([a1, a2] : List Int)) (inner := [.int .i64 a1, .int .i64 a2]) (ok := fun _ => True) (okp := fun _ => True) ?hr ?hp (fun _ hk => hk) trivial (Below.refl _ _) (Nat.le_refl _) (by simp) ?_; (case hd => rfl); (case hg => rfl); (case hr => first | (go_simp; done) | (go_simp; rfl)); (case hp => exact (Reps.one (show Kd.M (Kd.int .i64) _ _ _ a1 [.int .i64 a1] from rfl) (Reps.one (show Kd.M (Kd.int .i64) _ _ _ a2 [.int .i64 a2] from rfl) (Reps.none _ _)))); intro v1002 w6 ho7 hb hg_ hnew_; clear hg_ hnew_; (first | rw [← Ny1001.out] at ho7 | (simp only [Int.reduceToNat] at ho7; rw [← Ny1001.out] at ho7)); have n0_ := Aside0.mk (Kd.R_lower ho7 (below_size (by repeat (first | (with_reducible first | exact HB.out | apply below_alloc | apply pw_below_drewN | apply below_drew1) | exact HB.out)))); have n1_ := Aside0.mk (below_step (by repeat (first | (with_reducible first | exact HB.out | apply below_alloc | apply pw_below_drewN | apply below_drew1) | exact HB.out)) hb); clear HB; have HO1003 := n0_; have HB := n1_; clear n0_ n1_; clear hb ho7; obtain ⟨Ao8, co8, eo8⟩ := Kd.R_slice HO1003.out; subst eo8) | ((with_reducible refine gate_callee (f := 41) rfl ?_); refine goesL_ (some 16) rfl rfl Tryd.func41 (by kernel_rfl) rfl #[.int .i64 a0, .slice Ao8 y1001.length co8] rfl (by (try simp only [List.map_toArray, List.map_cons, List.map_nil]); first | done | rfl | (simp only [List.length_drop, List.length_take]; rfl)) ?_; (with_reducible refine (chords_circle_valid.calls a0 _ _ y1001 true _ ?side1 ?side2 A4.out).mono ?_); (case side1 => repeat (first | exact (Kd.R_reads' HO1003.out).2.2 | (with_reducible refine Kd.C_alloc ?_ _) | (with_reducible refine Kd.C_drewN ?_ _) | (with_reducible refine Kd.C_drew ?_))); (case side2 => exact (Kd.R_reads' HO1003.out).2.1); rintro e w9 ⟨rfl, hb⟩; refine ⟨_, rfl, ?_⟩; have n0_ := Aside0.mk (Kd.R_below (by (with_reducible repeat (first | apply Kd.R_alloc | apply Kd.R_drewN | apply Kd.R_drew)); exact HO1003.out) hb); have n1_ := Aside0.mk (below_step (by repeat (first | (with_reducible first | exact HB.out | apply below_alloc | apply pw_below_drewN | apply below_drew1) | exact HB.out)) hb); clear HO1003; clear HB; have HO1003 := n0_; have HB := n1_; clear n0_ n1_; (try clear hb); (try clear hb2); (try clear hk); (try clear hi)))
    go_loopg [9, 19] k (fun kq v9 v19 w' => ∃ (x9_1 : List Int) (x19_1 : Int), v19 = .int .i64 x19_1 ∧ Aside0 (chords_Common.l0 kq a1 a2 a0 x9_1 a0 x19_1 = some (r1, r2)) ∧ Aside0 (kq ≤ k) ∧ Aside0 (Kd.R (Kd.int .i64) 3 w' w.heap.size (fun _ => True) v9 x9_1) ∧ Aside0 (Below w.heap.size w w'))
    case atStart => exact ⟨(([] : List Int)), (0), (by first | rfl | (simp; done) | (simp [*]; done)), H', ⟨Nat.le_refl _⟩, ⟨by first | exact Kd.R_nil _ _ _ _ _ | exact Kd.N_nil _ _ _ _ _ | exact Kd.V_nil _ _ _ _ _ | exact Kd.Q_nil _ _ _ _ _ | exact Kd.S_nil _ _ _ _ _⟩, ⟨by repeat (first | (with_reducible first | exact HB.out | apply below_alloc | apply pw_below_drewN | apply below_drew1) | exact HB.out)⟩⟩
    case round =>
      clear H'
      try clear c2
      try clear p2
      try clear c4
      try clear c5
      obtain ⟨x9_1, x19_1, rfl, HA, HK1, HO_9, HB⟩ := hrel
      cases gk with
      | zero => exact absurd HA.out (by simp [chords_Common.l0])
      | succ k1 =>
        have H := HA.out
        clear HA
        simp only [chords_Common.l0] at H
        by_cases c10 : x19_1 < a0
        · rw [if_pos c10] at H
          have c10b0 : decide (x19_1 < a0) = true := decide_eq_true c10
          clear c10
          replace H := Option.bind_eq_some_iff.mp H
          obtain ⟨t1005, A110, H⟩ := H
          replace H : ((chords_count.f (Go.bits .and .i64 a1 t1005)).bind fun t1006 => (if x9_1.length < 17592186044416 then (chords_Common.l0 k1 a1 a2 a0 (x9_1 ++ [t1006]) a0 (wrap64 (x19_1 + 1))) else (none))) = some (r1, r2) := H
          have A11 := Aside0.mk A110
          clear A110
          replace H := Option.bind_eq_some_iff.mp H
          obtain ⟨t1006, A120, H⟩ := H
          replace H : (if x9_1.length < 17592186044416 then (chords_Common.l0 k1 a1 a2 a0 (x9_1 ++ [t1006]) a0 (wrap64 (x19_1 + 1))) else (none)) = some (r1, r2) := H
          have A12 := Aside0.mk A120
          clear A120
          by_cases c13 : x9_1.length < 17592186044416
          · rw [if_pos c13] at H
            have LMc13 := Aside0.mk c13
            clear c13
            obtain ⟨y1007, hy1007⟩ : ∃ y_ : List Int, y_ = (x9_1 ++ [t1006]) := ⟨_, rfl⟩
            replace H : (chords_Common.l0 k1 a1 a2 a0 y1007 a0 (wrap64 (x19_1 + 1))) = some (r1, r2) := by first | (rw [hy1007]; with_reducible exact H) | (have H2_ := (Option.bind_some _ _).symm.trans H; rw [hy1007]; with_reducible exact H2_) | (have H2_ := (Option.bind_some _ _).symm.trans H; with_reducible exact H2_) | with_reducible exact H | (rw [hy1007]; exact H) | exact H
            have Ny1007 := Aside0.mk hy1007
            clear hy1007
            have H' := Aside0.mk H
            clear H
            go_wp2_with (first | ((with_reducible refine gate_callee (f := 42) rfl ?_); refine goesL_ (some 27) rfl rfl Tryd.func42 (by kernel_rfl) rfl #[.int .i64 a0, .int .i64 a2, .int .i64 x19_1] rfl (by (try simp only [List.map_toArray, List.map_cons, List.map_nil]); first | done | rfl | (simp only [List.length_drop, List.length_take]; rfl)) ?_; (with_reducible refine (chords_circle_move.calls a0 a2 x19_1 t1005 _ A11.out).mono ?_); rintro e w' ⟨rfl, ⟨nd, rfl⟩⟩; refine ⟨_, rfl, ?_⟩) | ((with_reducible refine gate_callee (f := 50) rfl ?_); refine goesL_ (some 29) rfl rfl Tryd.func50 (by kernel_rfl) rfl #[.int .i64 (Go.bits .and .i64 a1 t1005)] rfl (by (try simp only [List.map_toArray, List.map_cons, List.map_nil]); first | done | rfl | (simp only [List.length_drop, List.length_take]; rfl)) ?_; (with_reducible refine (chords_count.calls (Go.bits .and .i64 a1 t1005) t1006 _ A12.out).mono ?_); rintro e w' ⟨rfl, ⟨nd, rfl⟩⟩; refine ⟨_, rfl, ?_⟩) | ((with_reducible refine gate_builtin (b := .append) (xs := #[.tmp 22, .tmp 30]) rfl ?_); at_builtin; refine Kd.R_append (Kd.int .i64) (w0 := w) w.heap.size rfl (.tmp 22) (.tmp 30) 35 3 (.int .i64 0) 8 rfl Tryd.underlying35 info3 rfl (by decide) (by omega) u9 x9_1 t1006 [.int .i64 t1006] (fun _ => True) (fun _ => False) rfl rfl ?aP (fun _ hk => hk.elim) ?aF ?aO ?aB ?aS ?aL ?_; (case aP => exact rfl); (case aB => exact (by repeat (first | (with_reducible first | exact HB.out | apply below_alloc | apply pw_below_drewN | apply below_drew1) | exact HB.out))); (case aF => exact (fun _ _ => trivial)); (case aO => exact (by (with_reducible repeat (first | apply Kd.R_alloc | apply Kd.R_drewN | apply Kd.R_drew)); exact HO_9.out)); (case aS => exact (below_size (by repeat (first | (with_reducible first | exact HB.out | apply below_alloc | apply pw_below_drewN | apply below_drew1) | exact HB.out)))); (case aL => have := LMc13.out; omega); intro v1008 w14 ho hb hg hat; rw [← Ny1007.out] at ho; have n0_ := Aside0.mk (hb); have n1_ := Aside0.mk (ho); clear HB; clear HO_9; have HB := n0_; have HO1009 := n1_; clear n0_ n1_; clear ho hb hg hat))
            go_roundg k1
            case measure => have := HK1.out; omega
            case rel => exact ⟨(y1007), (wrap64 (x19_1 + 1)), (by first | rfl | (simp; done) | (simp [*]; done)), H', ⟨by have := HK1.out; omega⟩, ⟨by (with_reducible repeat (first | apply Kd.R_alloc | apply Kd.R_drewN | apply Kd.R_drew)); exact HO1009.out⟩, ⟨by repeat (first | (with_reducible first | exact HB.out | apply below_alloc | apply pw_below_drewN | apply below_drew1) | exact HB.out)⟩⟩
          · rw [if_neg c13] at H
            exact absurd H (by simp)
        · rw [if_neg c10] at H
          have c10b0 : decide (x19_1 < a0) = false := decide_eq_false c10
          clear c10
          simp only [Option.some.injEq, Prod.mk.injEq] at H
          obtain ⟨rfl, rfl⟩ := H
          go_wp2
          go_ret2
          exact ⟨_, by first | rfl | (simp [errW_none, errW_some] <;> rfl) | (simp [*, errW_none, errW_some] <;> rfl), by (with_reducible repeat (first | apply Kd.R_alloc | apply Kd.R_drewN | apply Kd.R_drew)); exact HO_9.out, by repeat (first | (with_reducible first | exact HB.out | apply below_alloc | apply pw_below_drewN | apply below_drew1) | exact HB.out)⟩
  · replace c5 := Bool.eq_false_iff.mpr c5
    subst c5
    have H1 : (some (([] : List Int), 2)) = some (r1, r2) := by rw [if_neg (show ¬ (false = true) by decide)] at H; exact H
    clear H
    have H := H1
    clear H1
    simp only [Option.some.injEq, Prod.mk.injEq] at H
    obtain ⟨rfl, rfl⟩ := H
    go_enter Tryd.func25, Tryd.ntmps25
    go_wp2_with (first | ((with_reducible refine gate_dst (N := 15) rfl ?_); refine Kd.R_lit (Kd.int .i64) _ 3 ?hg (N := 15) ?hd (xs := ([a1, a2] : List Int)) (inner := [.int .i64 a1, .int .i64 a2]) (ok := fun _ => True) (okp := fun _ => True) ?hr ?hp (fun _ hk => hk) trivial (Below.refl _ _) (Nat.le_refl _) (by simp) ?_; (case hd => rfl); (case hg => rfl); (case hr => first | (go_simp; done) | (go_simp; rfl)); (case hp => exact (Reps.one (show Kd.M (Kd.int .i64) _ _ _ a1 [.int .i64 a1] from rfl) (Reps.one (show Kd.M (Kd.int .i64) _ _ _ a2 [.int .i64 a2] from rfl) (Reps.none _ _)))); intro v1002 w15 ho16 hb hg_ hnew_; clear hg_ hnew_; (first | rw [← Ny1001.out] at ho16 | (simp only [Int.reduceToNat] at ho16; rw [← Ny1001.out] at ho16)); have n0_ := Aside0.mk (Kd.R_lower ho16 (below_size (by repeat (first | (with_reducible first | exact HB.out | apply below_alloc | apply pw_below_drewN | apply below_drew1) | exact HB.out)))); have n1_ := Aside0.mk (below_step (by repeat (first | (with_reducible first | exact HB.out | apply below_alloc | apply pw_below_drewN | apply below_drew1) | exact HB.out)) hb); clear HB; have HO1003 := n0_; have HB := n1_; clear n0_ n1_; clear hb ho16; obtain ⟨Ao17, co17, eo17⟩ := Kd.R_slice HO1003.out; subst eo17) | ((with_reducible refine gate_callee (f := 41) rfl ?_); refine goesL_ (some 16) rfl rfl Tryd.func41 (by kernel_rfl) rfl #[.int .i64 a0, .slice Ao17 y1001.length co17] rfl (by (try simp only [List.map_toArray, List.map_cons, List.map_nil]); first | done | rfl | (simp only [List.length_drop, List.length_take]; rfl)) ?_; (with_reducible refine (chords_circle_valid.calls a0 _ _ y1001 false _ ?side1 ?side2 A4.out).mono ?_); (case side1 => repeat (first | exact (Kd.R_reads' HO1003.out).2.2 | (with_reducible refine Kd.C_alloc ?_ _) | (with_reducible refine Kd.C_drewN ?_ _) | (with_reducible refine Kd.C_drew ?_))); (case side2 => exact (Kd.R_reads' HO1003.out).2.1); rintro e w18 ⟨rfl, hb⟩; refine ⟨_, rfl, ?_⟩; have n0_ := Aside0.mk (Kd.R_below (by (with_reducible repeat (first | apply Kd.R_alloc | apply Kd.R_drewN | apply Kd.R_drew)); exact HO1003.out) hb); have n1_ := Aside0.mk (below_step (by repeat (first | (with_reducible first | exact HB.out | apply below_alloc | apply pw_below_drewN | apply below_drew1) | exact HB.out)) hb); clear HO1003; clear HB; have HO1003 := n0_; have HB := n1_; clear n0_ n1_; (try clear hb); (try clear hb2); (try clear hk); (try clear hi)))
    go_ret2
    exact ⟨_, by first | rfl | (simp [errW_none, errW_some] <;> rfl) | (simp [*, errW_none, errW_some] <;> rfl), by first | exact Kd.R_nil _ _ _ _ _ | exact Kd.N_nil _ _ _ _ _ | exact Kd.V_nil _ _ _ _ _ | exact Kd.Q_nil _ _ _ _ _ | exact Kd.S_nil _ _ _ _ _, by repeat (first | (with_reducible first | exact HB.out | apply below_alloc | apply pw_below_drewN | apply below_drew1) | exact HB.out)⟩

end Go.Proofs.YtnjmiodnkjabgaaDoor.P
namespace Go.Proofs.YtnjmiodnkjabgaaDoor.P
open Go.RowKit Go.Proofs.YtnjmiodnkjabgaaDoorW.PrintWords Go.Proofs.YtnjmiodnkjabgaaDoorW.PrintLast Go.Proofs.YtnjmiodnkjabgaaDoorW.PrintMore
attribute [local go_sem] max2_int min2_int max_two min_two max_three min_three max_four min_four   -- for this text's walks alone
set_option linter.unusedVariables false
set_option linter.unusedSimpArgs false

/-! ### sackbutref01_mod: function 48 -/
def sackbutref01_mod.f (a0 : Int) (a1 : Int) : Option (Int) := if a1 = 0 then (none) else (some (Int.tmod (wrap64 ((Int.tmod a0 a1) + a1)) a1))
set_option maxHeartbeats 8000000 in
set_option maxRecDepth 100000 in
theorem sackbutref01_mod.calls (a0 : Int) (a1 : Int) (r : Int) (w : World) (h : sackbutref01_mod.f a0 a1 = some r) :
    Calls Tryd.prog 48 #[.int .i64 a0, .int .i64 a1] w fun e w' => e = .returned (.int .i64 r) ∧ Drawn0 w w' := by
  have H : (if a1 = 0 then (none) else (some (Int.tmod (wrap64 ((Int.tmod a0 a1) + a1)) a1))) = some r := h
  clear h
  by_cases c3 : a1 = 0
  · rw [if_pos c3] at H
    exact absurd H (by simp)
  · rw [if_neg c3] at H
    have c3b0 : (a1 == 0) = false := beq_eq_false_iff_ne.mpr c3
    have c3b1 : (a1 != 0) = true := bne_iff_ne.mpr c3
    obtain rfl := Option.some.inj H
    go_enter Tryd.func48, Tryd.ntmps48
    go_wp2
    go_ret
    exact ⟨by first | rfl | (simp; done) | (simp [*]; done), by repeat (first | exact Drawn0.refl _ | apply Drawn0.step)⟩

end Go.Proofs.YtnjmiodnkjabgaaDoor.P
namespace Go.Proofs.YtnjmiodnkjabgaaDoor.P
open Go.RowKit Go.Proofs.YtnjmiodnkjabgaaDoorW.PrintWords Go.Proofs.YtnjmiodnkjabgaaDoorW.PrintLast Go.Proofs.YtnjmiodnkjabgaaDoorW.PrintMore
attribute [local go_sem] max2_int min2_int max_two min_two max_three min_three max_four min_four   -- for this text's walks alone
set_option linter.unusedVariables false
set_option linter.unusedSimpArgs false

/-! ### sackbutref01_mapped: function 47 -/
def sackbutref01_mapped.l0 : Nat → Int → Int → Int → Int → Int → Int → Int → Option (Int)
  | 0, _, _, _, _, _, _, _ => none
  | k + 1, x0, x1, x2, x3, x9, x11, x12 => if x12 < x11 then (if 0 ≤ x12 then (if (Go.bits .and .i64 (shr .i64 x1 x12) 1) = 1 then ((sackbutref01_mod.f (wrap64 ((wrap64 (x2 * x12)) + x3)) x0).bind fun t1001 => (if 0 ≤ t1001 then (sackbutref01_mapped.l0 k x0 x1 x2 x3 (Go.bits .or .i64 x9 (shl .i64 1 t1001)) x11 (wrap64 (x12 + 1))) else (none))) else (sackbutref01_mapped.l0 k x0 x1 x2 x3 x9 x11 (wrap64 (x12 + 1)))) else (none)) else (some x9)
def sackbutref01_mapped.f (k : Nat) (a0 : Int) (a1 : Int) (a2 : Int) (a3 : Int) : Option (Int) := sackbutref01_mapped.l0 k a0 a1 a2 a3 0 a0 0
theorem sackbutref01_mapped.mono_l : ∀ k, (∀ y0 y1 y2 y3 y4 y5 y6, LeO (sackbutref01_mapped.l0 k y0 y1 y2 y3 y4 y5 y6) (sackbutref01_mapped.l0 (k + 1) y0 y1 y2 y3 y4 y5 y6))
  | 0 => fun _ _ _ _ _ _ _ r h => by simp [sackbutref01_mapped.l0] at h
  | k + 1 => by
    have ih0 := sackbutref01_mapped.mono_l k
    · intro y0 y1 y2 y3 y4 y5 y6
      unfold sackbutref01_mapped.l0
      repeat' first
      | (with_reducible exact ih0 _ _ _ _ _ _ _)
      | (with_reducible exact LeO.refl _)
      | (with_reducible exact LeO.none _)
      | (with_reducible refine LeO.ite ?_ ?_)
      | (with_reducible refine LeO.bind ?_ (fun _ => ?_))
      | exact ih0 _ _ _ _ _ _ _
      | exact LeO.none _
      | refine LeO.ite ?_ ?_
      | refine LeO.bind ?_ (fun _ => ?_)
theorem sackbutref01_mapped.mono : ∀ a0 a1 a2 a3 k, LeO (sackbutref01_mapped.f k a0 a1 a2 a3) (sackbutref01_mapped.f (k + 1) a0 a1 a2 a3) := by
  intro a0 a1 a2 a3 k
  have ih0 := sackbutref01_mapped.mono_l k
  unfold sackbutref01_mapped.f
  repeat' first
      | (with_reducible exact ih0 _ _ _ _ _ _ _)
      | (with_reducible exact LeO.refl _)
      | (with_reducible exact LeO.none _)
      | (with_reducible refine LeO.ite ?_ ?_)
      | (with_reducible refine LeO.bind ?_ (fun _ => ?_))
      | exact ih0 _ _ _ _ _ _ _
      | exact LeO.none _
      | refine LeO.ite ?_ ?_
      | refine LeO.bind ?_ (fun _ => ?_)
set_option maxHeartbeats 8000000 in
set_option maxRecDepth 100000 in
theorem sackbutref01_mapped.calls (k : Nat) (a0 : Int) (a1 : Int) (a2 : Int) (a3 : Int) (r : Int) (w : World) (h : sackbutref01_mapped.f k a0 a1 a2 a3 = some r) :
    Calls Tryd.prog 47 #[.int .i64 a0, .int .i64 a1, .int .i64 a2, .int .i64 a3] w fun e w' => e = .returned (.int .i64 r) ∧ Drawn0 w w' := by
  have H : (sackbutref01_mapped.l0 k a0 a1 a2 a3 0 a0 0) = some r := h
  clear h
  have H' := Aside0.mk H
  clear H
  go_enter Tryd.func47, Tryd.ntmps47
  go_wp2
  go_loopg [9, 12] k (fun kq v9 v12 w' => ∃ (x9_1 : Int) (x12_1 : Int), v9 = .int .i64 x9_1 ∧ v12 = .int .i64 x12_1 ∧ Aside0 (sackbutref01_mapped.l0 kq a0 a1 a2 a3 x9_1 a0 x12_1 = some r) ∧ Aside0 (kq ≤ k) ∧ Drawn0 w w')
  case atStart => exact ⟨(0), (0), (by first | rfl | (simp; done) | (simp [*]; done)), (by first | rfl | (simp; done) | (simp [*]; done)), H', ⟨Nat.le_refl _⟩, by repeat (first | exact Drawn0.refl _ | apply Drawn0.step)⟩
  case round =>
    clear H'
    try clear p2
    try clear c4
    obtain ⟨x9_1, x12_1, rfl, rfl, HA, HK1, ⟨m1, rfl⟩⟩ := hrel
    cases gk with
    | zero => exact absurd HA.out (by simp [sackbutref01_mapped.l0])
    | succ k1 =>
      have H := HA.out
      clear HA
      simp only [sackbutref01_mapped.l0] at H
      by_cases c5 : x12_1 < a0
      · rw [if_pos c5] at H
        have c5b0 : decide (x12_1 < a0) = true := decide_eq_true c5
        clear c5
        by_cases c6 : 0 ≤ x12_1
        · rw [if_pos c6] at H
          have c6b0 := eq_true c6
          have c6b1 : decide (0 ≤ x12_1) = true := decide_eq_true c6
          clear c6
          obtain ⟨ji7, hji7⟩ : ∃ j_ : Int, (shr .i64 a1 x12_1) = j_ := ⟨_, rfl⟩
          replace H : (if (Go.bits .and .i64 (ji7) 1) = 1 then ((sackbutref01_mod.f (wrap64 ((wrap64 (a2 * x12_1)) + a3)) a0).bind fun t1001 => (if 0 ≤ t1001 then (sackbutref01_mapped.l0 k1 a0 a1 a2 a3 (Go.bits .or .i64 x9_1 (shl .i64 1 t1001)) a0 (wrap64 (x12_1 + 1))) else (none))) else (sackbutref01_mapped.l0 k1 a0 a1 a2 a3 x9_1 a0 (wrap64 (x12_1 + 1)))) = some r := by first | (rw [hji7] at H; exact H) | (simp only [hji7] at H ⊢; exact H)
          have hji7_ : (a1 / 2 ^ min x12_1.toNat 64) = ji7 := hji7
          have hji7z : x12_1 ≤ 64 → (a1 / 2 ^ x12_1.toNat) = ji7 := shr_small hji7
          by_cases c8 : (Go.bits .and .i64 (ji7) 1) = 1
          · rw [if_pos c8] at H
            have c8b0 : ((Go.bits .and .i64 (ji7) 1) == 1) = true := beq_iff_eq.mpr c8
            have c8b1 : ((Go.bits .and .i64 (ji7) 1) != 1) = false := bne_eq_false_iff_eq.mpr c8
            clear c8
            replace H := Option.bind_eq_some_iff.mp H
            obtain ⟨t1001, A90, H⟩ := H
            replace H : (if 0 ≤ t1001 then (sackbutref01_mapped.l0 k1 a0 a1 a2 a3 (Go.bits .or .i64 x9_1 (shl .i64 1 t1001)) a0 (wrap64 (x12_1 + 1))) else (none)) = some r := H
            have A9 := Aside0.mk A90
            clear A90
            by_cases c10 : 0 ≤ t1001
            · rw [if_pos c10] at H
              have c10b0 := eq_true c10
              have c10b1 : decide (0 ≤ t1001) = true := decide_eq_true c10
              clear c10
              obtain ⟨ji11, hji11⟩ : ∃ j_ : Int, (shl .i64 1 t1001) = j_ := ⟨_, rfl⟩
              replace H : (sackbutref01_mapped.l0 k1 a0 a1 a2 a3 (Go.bits .or .i64 x9_1 (ji11)) a0 (wrap64 (x12_1 + 1))) = some r := by first | (rw [hji11] at H; exact H) | (simp only [hji11] at H ⊢; exact H)
              (try rw [hji11] at A9)
              have hji11_ : (IntKind.i64.wrap (1 * 2 ^ min t1001.toNat 64)) = ji11 := hji11
              have hji11z : t1001 ≤ 64 → (IntKind.i64.wrap (1 * 2 ^ t1001.toNat)) = ji11 := shl_small hji11
              have hji11u : (IntKind.i64.wrap (2 ^ min t1001.toNat 64)) = ji11 := by have h_ := hji11_; rw [Int.one_mul] at h_; exact h_
              have hji11v : t1001 ≤ 64 → (IntKind.i64.wrap (2 ^ t1001.toNat)) = ji11 := fun hle_ => by have h_ := hji11z hle_; rw [Int.one_mul] at h_; exact h_
              have hji11y : (wrap64 (1 * 2 ^ min t1001.toNat 64)) = ji11 := (i64_w _).symm.trans hji11_
              have hji11x : t1001 ≤ 64 → (wrap64 (1 * 2 ^ t1001.toNat)) = ji11 := fun h_ => (i64_w _).symm.trans (hji11z h_)
              have H' := Aside0.mk H
              clear H
              go_wp2_with (first | ((with_reducible refine gate_callee (f := 48) rfl ?_); refine goesL_ (some 27) rfl rfl Tryd.func48 (by kernel_rfl) rfl #[.int .i64 (wrap64 ((wrap64 (a2 * x12_1)) + a3)), .int .i64 a0] rfl (by (try simp only [List.map_toArray, List.map_cons, List.map_nil]); first | done | rfl | (simp only [List.length_drop, List.length_take]; rfl)) ?_; (with_reducible refine (sackbutref01_mod.calls (wrap64 ((wrap64 (a2 * x12_1)) + a3)) a0 t1001 _ A9.out).mono ?_); rintro e w' ⟨rfl, ⟨nd, rfl⟩⟩; refine ⟨_, rfl, ?_⟩))
              go_roundg k1
              case measure => have := HK1.out; omega
              case rel => exact ⟨(Go.bits .or .i64 x9_1 (ji11)), (wrap64 (x12_1 + 1)), (by first | rfl | (simp; done) | (simp only [← hji11] <;> (first | rfl | simp)) | (simp [*]; done)), (by first | rfl | (simp; done) | (simp [*]; done)), H', ⟨by have := HK1.out; omega⟩, by repeat (first | exact Drawn0.refl _ | apply Drawn0.step)⟩
            · rw [if_neg c10] at H
              exact absurd H (by simp)
          · rw [if_neg c8] at H
            have c8b0 : ((Go.bits .and .i64 (ji7) 1) == 1) = false := beq_eq_false_iff_ne.mpr c8
            have c8b1 : ((Go.bits .and .i64 (ji7) 1) != 1) = true := bne_iff_ne.mpr c8
            have H' := Aside0.mk H
            clear H
            go_wp2
            go_roundg k1
            case measure => have := HK1.out; omega
            case rel => exact ⟨(x9_1), (wrap64 (x12_1 + 1)), (by first | rfl | (simp; done) | (simp [*]; done)), (by first | rfl | (simp; done) | (simp [*]; done)), H', ⟨by have := HK1.out; omega⟩, by repeat (first | exact Drawn0.refl _ | apply Drawn0.step)⟩
        · rw [if_neg c6] at H
          exact absurd H (by simp)
      · rw [if_neg c5] at H
        have c5b0 : decide (x12_1 < a0) = false := decide_eq_false c5
        clear c5
        obtain rfl := Option.some.inj H
        go_wp2
        go_ret
        exact ⟨by first | rfl | (simp; done) | (simp [*]; done), by repeat (first | exact Drawn0.refl _ | apply Drawn0.step)⟩

end Go.Proofs.YtnjmiodnkjabgaaDoor.P
