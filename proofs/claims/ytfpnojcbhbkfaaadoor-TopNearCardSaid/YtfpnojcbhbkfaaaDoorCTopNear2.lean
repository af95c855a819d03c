/- A part of a proof that a law's Go function returns true for every input, laid by this session's program mp.py (which drives the kit's print). Conditions: as each theorem states them. -/
import Derived.Sort.QuietThIn
import Derived.Sort.QuietTacIn
import Derived.RangeFuncCalls
import Derived.Shelf.Abstract
import Derived.Shelf.RegionOpen
import Derived.Shelf.AbstractIn
import Derived.Sort.QuietIn
import Derived.OwnWalkIn
import Derived.TacticsInMore
import Derived.LoopNIn
import Derived.LoopIn
import Derived.StillTailTactics
import Derived.Laws.EntriesVeiled
import Derived.Test.YtfpnojcbhbkfaaaDoorCTopNear1
namespace Go.Proofs.YtfpnojcbhbkfaaaDoor.P
/-! A region whose order is drawn, within a round of a range over a function: operations that leave the world alone but for draws, and one store behind all of them. -/
section
variable {F : Fence} {n : Nat} {P : Program} {ops : Array Oper} {st : Oper} {C : World → Prop}
theorem push_ready_lt {listed : Array Bool} {j : Nat} (hs : listed.size = ops.size) (hlt : ∀ (j : Nat) (o : Oper), ops[j]? = some o → ∀ e ∈ o.after, e.on < j) (hj : j < ops.size) :
    j ∈ Region.ready .any (ops.push st) (listed.push false) ↔ j ∈ Region.ready .any ops listed := by
  have g : ∀ (k : Nat) (d : Bool), k < ops.size → (listed.push false).getD k d = listed.getD k d := fun k d hk => by
    simp only [Array.getD_eq_getD_getElem?, Array.getElem?_push, hs, if_neg (show ¬ k = ops.size by omega)]
  have o0 : (ops.push st)[j]? = ops[j]? := by rw [Array.getElem?_push, if_neg (by omega)]
  rw [mem_ready, mem_ready, g j true hj, o0]
  constructor
  · rintro ⟨h0, o, ho, h⟩
    exact ⟨h0, o, ho, fun e he hb => by rw [← g e.on false (by have := hlt j o ho e he; omega)]; exact h e he hb⟩
  · rintro ⟨h0, o, ho, h⟩
    exact ⟨h0, o, ho, fun e he hb => by rw [g e.on false (by have := hlt j o ho e he; omega)]; exact h e he hb⟩
/-- where nothing may come up, all has come -/
theorem all_listed {listed : Array Bool} (hs : listed.size = ops.size) (hlt : ∀ (j : Nat) (o : Oper), ops[j]? = some o → ∀ e ∈ o.after, e.on < j) (h : Region.ready .any ops listed = []) :
    ∀ j, j < ops.size → listed.getD j false = true := by
  intro j
  induction j using Nat.strongRecOn with
  | _ j ih =>
    intro hj
    cases hv : listed.getD j false with
    | true => rfl
    | false =>
      obtain ⟨o, ho⟩ : ∃ o, ops[j]? = some o := ⟨ops[j], by simp [hj]⟩
      have : j ∈ Region.ready .any ops listed := by
        rw [mem_ready]
        refine ⟨?_, o, ho, fun e he _ => ih e.on (hlt j o ho e he) (by have := hlt j o ho e he; omega)⟩
        rw [Array.getD_eq_getD_getElem?] at hv ⊢
        rw [show listed[j]? = some listed[j] by simp [hs, hj]] at hv ⊢
        exact hv
      rw [h] at this
      cases this
theorem anyIn_nil {Q' : Exit → Act → World → Prop} {a : Act} {w : World} {os : Array Oper} {listed : Array Bool} (h : Region.ready .any os listed = []) (hq : Q' .normal a w) : ∀ fuel, wpAnyIn F n P .any os Q' fuel listed a w
  | 0 => ⟨h, hq⟩
  | fuel + 1 => ⟨fun _ => hq, fun i hi => by rw [h] at hi; cases hi⟩
theorem op_of_quiet {o : Oper} {a : Act} {K : Act → Prop} {K' : Act → World → Prop} {Q' : Exit → Act → World → Prop} {w : World} (hsem : ∀ ρ, o.semAt F.round ρ = execOp ρ o) (hw : C w) (h : ∀ a w', C w' → K a → K' a w')
    (ha : o.askedIn F P a C) (hh : o.quietIn F n P a C K) : o.wpIn F n P a w K' Q' := by
  obtain ⟨v, h1, h2⟩ := hh
  have h3 := h1 w hw
  unfold Oper.quietAtIn at h3
  unfold Oper.wpIn
  refine ⟨ha w hw, ?_⟩
  rw [hsem]
  generalize (execOp a.eval o).run P w = r at *
  cases r with
  | ok x w' =>
    cases x <;> simp only [Oper.quietUponIn] at h3 <;> simp only [Oper.uponIn]
    case value u =>
      obtain ⟨e1, e2⟩ := h3
      rw [e1, e2]
      exact h _ _ hw h2
    case skip =>
      obtain ⟨e1, e2⟩ := h3
      rw [e1, ← e2]
      exact h _ _ hw h2
    case enter f args =>
      obtain ⟨e1, hd, hc⟩ := h3
      rw [e1]
      exact ⟨hd, hc.mono fun e w'' ⟨he, hw''⟩ => by subst he; exact h _ _ hw'' h2⟩
  | halt x w' => simp only [Oper.quietUponIn] at h3
theorem any_store {Q0 : Act → Prop} {Q' : Exit → Act → World → Prop} (hlt : ∀ (j : Nat) (o : Oper), ops[j]? = some o → ∀ e ∈ o.after, e.on < j)
    (hsem : ∀ (j : Nat) (o : Oper), ops[j]? = some o → o.guard = none ∧ ∀ ρ, o.semAt F.round ρ = execOp ρ o) (hst : ∀ e ∈ st.after, e.on < ops.size) (hst2 : ∀ j, j < ops.size → ∃ e ∈ st.after, Region.binds .any e = true ∧ e.on = j) (hsg : st.guard = none)
    (hQ : ∀ a w, C w → Q0 a → st.wpIn F n P a w (Q' .normal) Q') : ∀ (fuel : Nat) (listed : Array Bool) (a : Act) (w : World), C w → listed.size = ops.size →
    wpAnyQIn F n P .any ops C Q0 fuel listed a → wpAnyIn F n P .any (ops.push st) Q' (fuel + 1) (listed.push false) a w := by
  have oM : (ops.push st)[ops.size]? = some st := by simp
  have last : ∀ (listed : Array Bool), listed.size = ops.size → (∀ j, j < ops.size → listed.getD j false = true) → ops.size ∈ Region.ready .any (ops.push st) (listed.push false) := fun listed hs h => by
    rw [mem_ready]
    refine ⟨by simp [Array.getD_eq_getD_getElem?, ← hs], st, oM, fun e he _ => ?_⟩
    have := h e.on (hst e he)
    rw [Array.getD_eq_getD_getElem?] at this ⊢
    rw [Array.getElem?_push, if_neg (by have := hst e he; omega)]
    exact this
  have wt : ∀ (o : Oper) y, o.guard = none → Region.wanted o y = true := fun o y h => by unfold Region.wanted; rw [h]
  have store : ∀ (fuel : Nat) (listed : Array Bool) (a : Act) (w : World), C w → listed.size = ops.size → (∀ j, j < ops.size → listed.getD j false = true) → Q0 a →
      wpOpIn F n P (ops.push st) Q' ops.size (wpAnyIn F n P .any (ops.push st) Q' fuel ((listed.push false).setIfInBounds ops.size true)) a w := fun fuel listed a w hw hs h hq => by
    unfold wpOpIn
    simp only [oM, wt st _ hsg, if_true]
    refine Oper.wpIn_mono (fun a' w' hq' => anyIn_nil ?_ hq' fuel) (hQ a w hw hq)
    rw [List.eq_nil_iff_forall_not_mem]
    intro j hj
    rw [mem_ready] at hj
    obtain ⟨h0, o, ho, _⟩ := hj
    have hjs : j < (ops.push st).size := (Array.getElem?_eq_some_iff.1 ho).1
    rw [Array.size_push] at hjs
    rcases Nat.lt_or_ge j ops.size with c | c
    · have := h j c
      rw [Array.getD_eq_getD_getElem?] at this h0
      rw [Array.getElem?_setIfInBounds, if_neg (by omega), Array.getElem?_push, if_neg (by omega)] at h0
      rw [show listed[j]? = some listed[j] by simp [hs, c]] at this h0
      simp only [Option.getD_some] at this h0
      rw [this] at h0; cases h0
    · obtain rfl : j = ops.size := by omega
      rw [Array.getD_eq_getD_getElem?, Array.getElem?_setIfInBounds, if_pos rfl, if_pos (by simp [hs])] at h0
      cases h0
  have nonempty : ∀ (listed : Array Bool), listed.size = ops.size → Region.ready .any (ops.push st) (listed.push false) = [] → False := fun listed hs h => by
    cases hr : Region.ready .any ops listed with
    | nil =>
      have := last listed hs (all_listed hs hlt hr)
      rw [h] at this; cases this
    | cons j js =>
      have hj : j ∈ Region.ready .any ops listed := by rw [hr]; simp
      have hjs : j < ops.size := by
        have := mem_ready.1 hj
        obtain ⟨_, o, ho, _⟩ := this
        exact (Array.getElem?_eq_some_iff.1 ho).1
      have := (push_ready_lt (st := st) hs hlt hjs).2 hj
      rw [h] at this; cases this
  intro fuel
  induction fuel with
  | zero =>
    intro listed a w hw hs h
    refine ⟨fun h0 => (nonempty listed hs h0).elim, fun i hi => ?_⟩
    have hall := all_listed hs hlt h.1
    have hi' := hi
    rw [mem_ready] at hi'
    obtain ⟨_, o, ho, _⟩ := hi'
    have his : i < (ops.push st).size := (Array.getElem?_eq_some_iff.1 ho).1
    rw [Array.size_push] at his
    rcases Nat.lt_or_ge i ops.size with c | c
    · have := (push_ready_lt (st := st) hs hlt c).1 hi
      rw [h.1] at this; cases this
    · obtain rfl : i = ops.size := by omega
      exact store 0 listed a w hw hs hall h.2
  | succ fuel ih =>
    intro listed a w hw hs h
    refine ⟨fun h0 => (nonempty listed hs h0).elim, fun i hi => ?_⟩
    have hi' := hi
    rw [mem_ready] at hi'
    obtain ⟨hun, o, ho, hal⟩ := hi'
    have his : i < (ops.push st).size := (Array.getElem?_eq_some_iff.1 ho).1
    rw [Array.size_push] at his
    rcases Nat.lt_or_ge i ops.size with c | c
    · have hr := (push_ready_lt (st := st) hs hlt c).1 hi
      have hq := h.2 i hr
      rw [Array.getElem?_push, if_neg (by omega)] at ho
      unfold qOpIn at hq
      simp only [ho] at hq
      obtain ⟨hask, hq⟩ := hq
      rw [wt o _ (hsem i o ho).1, if_pos rfl] at hq
      unfold wpOpIn
      simp only [show (ops.push st)[i]? = some o by rw [Array.getElem?_push, if_neg (by omega)]; exact ho, wt o _ (hsem i o ho).1, if_true]
      refine op_of_quiet (hsem i o ho).2 hw (fun a' w' hw' hk => ?_) hask hq
      have e : (listed.push false).setIfInBounds i true = (listed.setIfInBounds i true).push false := by
        apply Array.ext_getElem?
        intro k
        simp only [Array.getElem?_setIfInBounds, Array.getElem?_push, Array.size_push, Array.size_setIfInBounds, hs]
        by_cases h1 : i = k
        · subst h1
          rw [if_pos rfl, if_pos (by omega), if_neg (by omega), if_pos rfl, if_pos c]
        · rw [if_neg h1, if_neg h1]
      rw [e]
      exact ih _ _ _ hw' (by simp [hs]) hk
    · obtain rfl : i = ops.size := by omega
      obtain rfl : st = o := Option.some.inj (oM.symm.trans ho)
      have hall : ∀ j, j < ops.size → listed.getD j false = true := fun j hj => by
        obtain ⟨e, he, hb, rfl⟩ := hst2 j hj
        have := hal e he hb
        rw [Array.getD_eq_getD_getElem?] at this ⊢
        rw [Array.getElem?_push, if_neg (by omega)] at this
        exact this
      have hr0 : Region.ready .any ops listed = [] := by
        rw [List.eq_nil_iff_forall_not_mem]
        intro j hj
        obtain ⟨h0, o, ho, _⟩ := mem_ready.1 hj
        have hjs : j < ops.size := (Array.getElem?_eq_some_iff.1 ho).1
        have := hall j hjs
        rw [Array.getD_eq_getD_getElem?] at this h0
        rw [show listed[j]? = some listed[j] by simp [hs, hjs]] at this h0
        simp only [Option.getD_some] at this h0
        rw [this] at h0; cases h0
      exact store (fuel + 1) listed a w hw hs hall (h.1 hr0)
/-- **One walk of the text's order serves every order: quiet operations, then one store.** -/
theorem region_store {id : Nat} {Q : Exit → Act → World → Prop} {a : Act} {w : World} {l : List Oper} (hm : P.follows .mixedOrders = true) (hB : Region.lexB .any l.toArray = true)
    (hlt : ∀ (j : Nat) (o : Oper), l.toArray[j]? = some o → ∀ e ∈ o.after, e.on < j)
    (hsem : ∀ (j : Nat) (o : Oper), l.toArray[j]? = some o → o.guard = none ∧ ∀ ρ, o.semAt F.round ρ = execOp ρ o) (hst : ∀ e ∈ st.after, e.on < l.toArray.size) (hst2 : ∀ j, j < l.toArray.size → ∃ e ∈ st.after, Region.binds .any e = true ∧ e.on = j) (hsg : st.guard = none)
    (h : wpQuietIn F n P l.toArray (fun w' => ∃ n, w' = w.drewN n) (fun a' => ∀ w', (∃ n, w' = w.drewN n) → st.wpIn F n P a' w' (Q .normal) Q) l a) : (Code.region id (l.toArray.push st) true).wpIn F n P Q a w := by
  simp only [Region.lexB, Bool.and_eq_true] at hB
  refine wpIn_region_any hm ?_
  have h1 := wpAnyQIn_lex (F := F) (n := n) (P := P) (C := fun w' => ∃ n, w' = w.drewN n) (md := .any) hB.1 l 0 (Array.replicate l.toArray.size false) a (by simp) (by simpa using hB.2) h
  have h2 := any_store (F := F) (n := n) (P := P) (st := st) (Q' := Q) hlt hsem hst hst2 hsg (fun a w hw hq => hq w hw) l.length (Array.replicate l.toArray.size false) a { w with drawn := w.drawn + 1 } ⟨1, rfl⟩ (by simp) h1
  have e : Array.replicate (l.toArray.push st).size false = (Array.replicate l.toArray.size false).push false := by
    rw [Array.size_push, Array.replicate_succ]
  rw [e, Array.size_push]
  simpa using h2
/-- all that is asked of such a region's operations, as one question -/
def noDefer : Op → Bool
  | .defer _ => false
  | _ => true
def storeLast (l : List Oper) : Bool :=
  match l.getLast? with
  | none => false
  | some st => st.guard.isNone && st.after.all (fun e => decide (e.on < l.dropLast.length)) && (List.range l.dropLast.length).all (fun j => st.after.any (fun e => Region.binds .any e && e.on == j)) &&
    Region.lexB .any l.dropLast.toArray && (l.dropLast.zipIdx.all fun p => p.1.guard.isNone && p.1.after.all (fun e => decide (e.on < p.2)) && noDefer p.1.op)
theorem region_store_lit {id : Nat} {Q : Exit → Act → World → Prop} {a : Act} {w : World} {l : List Oper} (hm : P.follows .mixedOrders = true) (hB : storeLast l = true)
    (h : ∀ st, l.getLast? = some st → wpQuietIn F n P l.dropLast.toArray (fun w' => ∃ n, w' = w.drewN n) (fun a' => ∀ w', (∃ n, w' = w.drewN n) → st.wpIn F n P a' w' (Q .normal) Q) l.dropLast a) : (Code.region id l.toArray true).wpIn F n P Q a w := by
  unfold storeLast at hB
  cases hl : l.getLast? with
  | none => rw [hl] at hB; cases hB
  | some st =>
    rw [hl] at hB
    simp only [Bool.and_eq_true, Option.isNone_iff_eq_none] at hB
    obtain ⟨⟨⟨⟨h1, h2⟩, h3⟩, h4⟩, h5⟩ := hB
    have e : l.toArray = l.dropLast.toArray.push st := by
      have hne : l ≠ [] := fun e => by subst e; simp at hl
      have := List.dropLast_concat_getLast hne
      rw [List.getLast?_eq_some_getLast hne] at hl
      rw [Option.some.inj hl] at this
      rw [List.push_toArray, this]
    have h5' : ∀ (j : Nat) (o : Oper), l.dropLast.toArray[j]? = some o → o.guard = none ∧ (∀ e ∈ o.after, e.on < j) ∧ noDefer o.op = true := fun j o ho => by
      rw [List.all_eq_true] at h5
      have hm : (o, j) ∈ l.dropLast.zipIdx := by
        rw [List.mk_mem_zipIdx_iff_getElem?]
        simpa using ho
      have := h5 _ hm
      simp only [Bool.and_eq_true, Option.isNone_iff_eq_none] at this
      refine ⟨this.1.1, fun e he => ?_, this.2⟩
      have := Array.all_eq_true_iff_forall_mem.1 this.1.2 e he
      exact of_decide_eq_true this
    rw [e]
    refine region_store hm h4 (fun j o ho => (h5' j o ho).2.1) (fun j o ho => ⟨(h5' j o ho).1, fun ρ => Oper.semAt_eq _ _ _ (fun c hc => ?_)⟩) (fun e he => ?_) (fun j hj => ?_) h1 (h st hl)
    · have := (h5' j o ho).2.2
      rw [hc] at this; cases this
    · have := Array.all_eq_true_iff_forall_mem.1 h2 e he
      simpa using of_decide_eq_true this
    · rw [List.all_eq_true] at h3
      have := h3 j (List.mem_range.2 (by simpa using hj))
      obtain ⟨e, he, hb⟩ := Array.any_eq_true'.1 this
      simp only [Bool.and_eq_true, beq_iff_eq] at hb
      exact ⟨e, he, hb.1, hb.2⟩
end
end Go.Proofs.YtfpnojcbhbkfaaaDoor.P
namespace Go.Proofs.YtfpnojcbhbkfaaaDoor.P
open Go.RowKit Go.Proofs.YtfpnojcbhbkfaaaDoorW.PrintWords Go.Proofs.YtfpnojcbhbkfaaaDoorW.PrintLast Go.Proofs.YtfpnojcbhbkfaaaDoorW.PrintMore
attribute [local go_sem] max2_int min2_int max_two min_two max_three min_three max_four min_four   -- for this text's walks alone
set_option linter.unusedVariables false
set_option linter.unusedSimpArgs false

/-! Rounds, wraps and bits, as the printed functions spell them. -/
theorem Ev.succ {α : Type} {g : Nat → Option α} {r : α} (h : Ev (fun k => g (k + 1)) r) : Ev g r := Ev.step (f := fun k => g (k + 1)) (fun _ => rfl) h
theorem Ev.some {α : Type} (r : α) : Ev (fun _ => Option.some r) r := Ev.now r
theorem Ev.ite {α : Type} {c : Prop} [Decidable c] {f g : Nat → Option α} {r : α} (h1 : c → Ev f r) (h2 : ¬ c → Ev g r) : Ev (fun k => if c then f k else g k) r := by
  by_cases hc : c
  · simp only [hc, if_true]; exact h1 hc
  · simp only [hc, if_false]; exact h2 hc
theorem Ev.bind_some {α β : Type} {o : Option α} {f : Nat → α → Option β} {a : α} {r : β} (h : o = Option.some a) (k : Ev (fun n => f n a) r) : Ev (fun n => o.bind (f n)) r := by
  subst h; exact k
/-- What two loops come to is the same. -/
theorem Ev.det {α : Type} {g : Nat → Option α} {r r' : α} (h : Ev g r) (h' : Ev g r') : r = r' := by
  obtain ⟨K, h⟩ := h
  obtain ⟨K', h'⟩ := h'
  have h1 := h (max K K') (Nat.le_max_left _ _)
  have h2 := h' (max K K') (Nat.le_max_right _ _)
  rw [h1] at h2
  exact Option.some.inj h2

theorem wrap_id {n : Int} (h0 : -9223372036854775808 ≤ n) (h1 : n < 9223372036854775808) : wrap64 n = n := by unfold wrap64; omega

theorem rd_nat (xs : List Int) (i : Nat) : rd xs (i : Int) = xs.getD i 0 := by unfold rd; rw [Int.toNat_natCast]
theorem rd_get {xs : List Int} {i : Nat} (h : i < xs.length) : rd xs (i : Int) = xs[i] := by
  rw [rd_nat, List.getD_eq_getElem?_getD, List.getElem?_eq_getElem h]; rfl
theorem rd_mem {xs : List Int} {i : Nat} (h : i < xs.length) : rd xs (i : Int) ∈ xs := by rw [rd_get h]; exact List.getElem_mem h

theorem i64_id {n : Int} (h0 : -9223372036854775808 ≤ n) (h1 : n < 9223372036854775808) : IntKind.i64.wrap n = n := by rw [IntKind.wrap_i64]; omega
theorem bits_i64 (a b : Nat) (ha : a < 2 ^ 63) (hb : b < 2 ^ 63) : Go.bits .and .i64 (a : Int) (b : Int) = ((a &&& b : Nat) : Int) ∧ Go.bits .or .i64 (a : Int) (b : Int) = ((a ||| b : Nat) : Int) := by
  refine bits_nat .i64 63 (by decide) (fun n h0 h1 => i64_id (by omega) ?_) a b ha hb
  have : (2 : Int) ^ 63 = 9223372036854775808 := by decide
  omega
theorem or_i64 {a b : Nat} (ha : a < 2 ^ 63) (hb : b < 2 ^ 63) : Go.bits .or .i64 (a : Int) (b : Int) = ((a ||| b : Nat) : Int) := (bits_i64 a b ha hb).2
theorem and_i64 {a b : Nat} (ha : a < 2 ^ 63) (hb : b < 2 ^ 63) : Go.bits .and .i64 (a : Int) (b : Int) = ((a &&& b : Nat) : Int) := (bits_i64 a b ha hb).1
theorem pow_cast (x : Nat) : ((2 ^ x : Nat) : Int) = (2 : Int) ^ x := by simp
theorem two_pow_lt63 {x : Nat} (h : x ≤ 62) : 2 ^ x < 2 ^ 63 := Nat.pow_lt_pow_right (by omega) (by omega)
theorem shl_i64 {a x : Nat} (hx : x ≤ 62) (h : a * 2 ^ x < 2 ^ 63) : shl .i64 (a : Int) (x : Int) = ((a * 2 ^ x : Nat) : Int) := by
  unfold shl
  rw [Int.toNat_natCast, show min x IntKind.i64.bits = x from Nat.min_eq_left (by show x ≤ 64; omega)]
  have e : ((a : Int) * 2 ^ x) = ((a * 2 ^ x : Nat) : Int) := by rw [Int.natCast_mul, pow_cast]
  rw [e]
  exact i64_id (by omega) (by have : (2 : Nat) ^ 63 = 9223372036854775808 := by decide
                              omega)
theorem shl1_i64 {x : Nat} (hx : x ≤ 62) : shl .i64 1 (x : Int) = ((2 ^ x : Nat) : Int) := by
  have h := shl_i64 (a := 1) hx (by have := two_pow_lt63 hx; omega)
  simpa using h
theorem shr_i64 (a x : Nat) (hx : x ≤ 64) : shr .i64 (a : Int) (x : Int) = ((a / 2 ^ x : Nat) : Int) := by
  unfold shr
  rw [Int.toNat_natCast, show min x IntKind.i64.bits = x from Nat.min_eq_left (by show x ≤ 64; omega)]
  simp
/-- 'a >> x & 1 == 1' -/
theorem bit_i64 {a x : Nat} (ha : a < 2 ^ 63) (hx : x ≤ 64) : Go.bits .and .i64 (shr .i64 (a : Int) (x : Int)) 1 = if a.testBit x then 1 else 0 := by
  rw [shr_i64 a x hx]
  have hlt : a / 2 ^ x < 2 ^ 63 := Nat.lt_of_le_of_lt (Nat.div_le_self _ _) ha
  have h := and_i64 (a := a / 2 ^ x) (b := 1) hlt (by decide)
  rw [show ((1 : Nat) : Int) = 1 from rfl] at h
  rw [h, Nat.and_one_is_mod, Nat.testBit_eq_decide_div_mod_eq]
  rcases Nat.mod_two_eq_zero_or_one (a / 2 ^ x) with h | h <;> simp [h]
theorem bit1_i64 {a x : Nat} (ha : a < 2 ^ 63) (hx : x ≤ 64) : (Go.bits .and .i64 (shr .i64 (a : Int) (x : Int)) 1 = 1) ↔ a.testBit x = true := by
  rw [bit_i64 ha hx]; split <;> simp_all
theorem mn_eq (a b : Int) : mn a b = min a b := by unfold mn; omega
theorem mx_eq (a b : Int) : mx a b = max a b := by unfold mx; omega

/-! One round of a loop over a list: what lies behind and what is to come. -/
theorem mid_lt {l pre xs : List Int} {x : Int} (hl : l = pre ++ x :: xs) : (pre.length : Int) < (l.length : Int) := by subst hl; simp; omega
theorem mid_rd {l pre xs : List Int} {x : Int} (hl : l = pre ++ x :: xs) : rd l (pre.length : Int) = x := by
  subst hl
  rw [rd_get (by simp)]
  simp
theorem mid_next {l pre xs : List Int} {x : Int} (hl : l = pre ++ x :: xs) (hb : l.length < 9223372036854775807) : wrap64 ((pre.length : Int) + 1) = ((pre ++ [x]).length : Int) := by
  subst hl
  rw [wrap_id (by omega) (by simp at hb; omega)]
  simp
theorem mid_end {l pre : List Int} (hl : l = pre ++ []) : ¬ (pre.length : Int) < (l.length : Int) := by subst hl; simp
theorem mid_mv {l pre xs : List Int} {x : Int} (hl : l = pre ++ x :: xs) : l = (pre ++ [x]) ++ xs := by subst hl; simp
/-- 'mod' of the program and of the references: the rest from 0 on. -/
theorem tmod_mod {a n : Int} (hn : 0 < n) (hb : n < 4611686018427387904) : Int.tmod (wrap64 (Int.tmod a n + n)) n = a % n := by
  have h1 : Int.tmod a n < n := Int.tmod_lt_of_pos a hn
  have h2 : -n < Int.tmod a n := by
    have h := Int.tmod_lt_of_pos (-a) hn
    rw [Int.neg_tmod] at h
    omega
  rw [wrap_id (by omega) (by omega), Int.tmod_eq_emod_of_nonneg (by omega), Int.add_emod_right]
  have h3 : Int.tmod a n = a - n * Int.tdiv a n := by have := Int.mul_tdiv_add_tmod a n; omega
  rw [h3, Int.sub_mul_emod_self_left]

end Go.Proofs.YtfpnojcbhbkfaaaDoor.P
namespace Go.Proofs.YtfpnojcbhbkfaaaDoor.P
open Go.RowKit Go.Proofs.YtfpnojcbhbkfaaaDoorW.PrintWords Go.Proofs.YtfpnojcbhbkfaaaDoorW.PrintLast Go.Proofs.YtfpnojcbhbkfaaaDoorW.PrintMore
attribute [local go_sem] max2_int min2_int max_two min_two max_three min_three max_four min_four   -- for this text's walks alone
set_option linter.unusedVariables false
set_option linter.unusedSimpArgs false

attribute [local go_sem] Oper.semAt_some
/-- what the loop over a set's tones leaves in memory between two tones: the rest of the set -/
def ToneSt (B : Nat) (A C : World) : Prop := (∃ v, A.cell? ⟨B, 0, none⟩ = some v) ∧ ∃ u, C = A.setCell ⟨B, 0, none⟩ u
def ToneKp (B : Nat) (A C : World) : Prop := C.heap[B]? = A.heap[B]? ∧ C.heap[1]? = A.heap[1]?
def restAt (B : Nat) (w : World) : Nat := match w.cell? ⟨B, 0, none⟩ with | some (.int _ z) => z.toNat | _ => 0
theorem step_rest {c : Nat} (hc : c < 2 ^ 24) (hp : 0 < c) : Go.bits .and .i64 (c : Int) (IntKind.i64.wrap ((c : Int) - 1)) = ((c &&& (c - 1) : Nat) : Int) := by
  have h24 : (2 : Nat) ^ 24 = 16777216 := by decide
  have h63 : (2 : Nat) ^ 63 = 9223372036854775808 := by decide
  rw [i64_id (by omega) (by omega), show (c : Int) - 1 = ((c - 1 : Nat) : Int) by omega, and_i64 (by omega) (by omega)]
set_option maxHeartbeats 2000000 in
theorem tones1_seq (B c0 : Nat) (xs : List Nat) (w : World) (hB : B < w.heap.size) (hB1 : B ≠ 1) (hT0 : Tabs w) (hc0 : w.cell? ⟨B, 0, none⟩ = some (.int .i64 (c0 : Int))) (hf0 : w.frozen? ⟨B, 0, none⟩ = false) (h240 : c0 < 2 ^ 24) (hx0 : TonesOf c0 xs) :
    SeqSt Fence.wide 2 Tryd.prog 143 #[.pointer (some ⟨B, 0, none⟩)] (fun x : Nat => #[.int .i64 (x : Int)]) xs (ToneSt B) (ToneKp B) w := by
  intro l J Jx W hW hJ hJx hY h0
  have hWh : W.heap[B]? = w.heap[B]? := hW.block _ hB
  have HC := Aside0.mk ((cell_heap hWh 0).trans hc0)
  have HF := Aside0.mk ((frozen_heap hWh 0).trans hf0)
  have HT := Aside0.mk (hT0.below hW)
  have HX := Aside0.mk hx0
  clear hWh hc0 hf0 hT0 hx0 hW hB
  refine callsIn_of_wp Tryd.func143 rfl trivial ?_ rfl
  simp only [Tryd.ntmps143, List.size_toArray, List.length_cons, List.length_nil, Nat.reduceAdd, Nat.reduceSub, Array.replicate_succ, Array.replicate_zero, List.push_toArray, List.append_toArray, List.nil_append, List.cons_append]
  gi_wp2
  gi_loopw [3] (fun p wr => ∃ (pre rest : List Nat) (c : Nat), xs = pre ++ rest ∧ TonesOf c rest ∧ c < 2 ^ 24 ∧ wr.cell? ⟨B, 0, none⟩ = some (.int .i64 (c : Int)) ∧ wr.frozen? ⟨B, 0, none⟩ = false ∧ Tabs wr ∧ J pre wr)
    (fun p wr => restAt B wr)
  case atStart =>
    exact ⟨[], xs, c0, rfl, HX.out, h240, HC.out, HF.out, HT.out, h0⟩
  case round =>
    obtain ⟨pre, rest, c, hx, ht, h24, hc, hf, hT, hJs⟩ := hrel
    clear HC HF HT HX h240
    rcases Nat.eq_zero_or_pos c with hz | hp
    · subst hz
      have hr0 := tones_zero ht
      subst hr0
      gi_wp2
      go_end0
      exact ⟨⟨_, rfl⟩, .inl (by rw [hx, List.append_nil]; exact hJs)⟩
    · obtain ⟨m, r, rfl, h1, h2, h3⟩ := tones_cons hp ht
      obtain ⟨fn, tmps, assign, body, hy, hR⟩ := hY pre m r wr hx hJs
      have HTZ := Aside0.mk (TZ_calls c m h24 hp h1 h2 wr hT)
      have hm := bit_lt h24 h1
      have hne : ((c : Int) != 0) = true := bne_iff_ne.2 (by omega)
      have hne2 : ((c : Int) == 0) = false := beq_eq_false_iff_ne.2 (by omega)
      have hw : IntKind.u64.wrap (c : Int) = (c : Int) := by
        rw [u64_mod]; have : (2 : Nat) ^ 24 = 16777216 := by decide
        omega
      have HE := Aside0.mk hc
      have HX := Aside0.mk hx
      have HP := Aside0.mk hp
      have H24 := Aside0.mk h24
      have HTT := Aside0.mk hT
      have HR3 := Aside0.mk h3
      clear hx hp h24 hT h3 ht h1 h2
      gi_wp2_with (first | (refine ⟨trivial, ?_⟩; gi_at_call 93; refine (callsIn_wide.2 HTZ.out).mono ?_; rintro e w' ⟨rfl, rfl⟩) | (gi_at_call 93; refine (callsIn_wide.2 HTZ.out).mono ?_; rintro e w' ⟨rfl, rfl⟩))
      refine hR.mono ?_
      rintro e W3 (⟨rfl, hJ3, hk3⟩ | ⟨rfl, hJx3⟩)
      · have hc3 : W3.cell? ⟨B, 0, none⟩ = some (.int .i64 (c : Int)) := (cell_heap hk3.1 0).trans hc
        have hf3 : W3.frozen? ⟨B, 0, none⟩ = false := (frozen_heap hk3.1 0).trans hf
        have HT3 := Aside0.mk (HTT.out.heap hk3.2)
        have hst := step_rest H24.out HP.out
        rw [i64_w] at hst
        generalize hd : c &&& (c - 1) = d at hst HR3
        have HD := Aside0.mk hd
        clear hd hc hf hJs hR hy HTZ HTT
        gi_wp2
        have hcd : (W3.setCell ⟨B, 0, none⟩ (.int .i64 (d : Int))).cell? ⟨B, 0, none⟩ = some (.int .i64 (d : Int)) := World.cell?_setCell_same' _ _ _ (by rw [hc3]; rfl)
        have hlt : d < c := by rw [← HD.out]; exact and_pred_lt HP.out
        go_roundw
        case rel =>
          refine ⟨pre ++ [m], r, d, by rw [HX.out]; simp, HR3.out, Nat.lt_trans hlt H24.out, hcd, by rw [World.frozen?_setCell]; exact hf3, ?_, ?_⟩
          · intro i hi
            rw [World.cell?_setCell_far _ _ _ _ hB1]
            exact HT3.out i hi
          · exact hJ _ _ _ hJ3 ⟨⟨_, hc3⟩, _, rfl⟩
        case measure =>
          have e1 : restAt B (W3.setCell ⟨B, 0, none⟩ (.int .i64 (d : Int))) = d := by unfold restAt; rw [hcd]; simp
          have e2 : restAt B w' = c := by unfold restAt; rw [HE.out]; simp
          rw [e1, e2]; exact hlt
      · gi_wp2
        refine bodyPost_ret (results_none rfl _ _ _) rfl ?_
        exact ⟨⟨_, rfl⟩, .inr ⟨pre ++ [m], r, by rw [HX.out]; simp, hJx3⟩⟩
theorem tones_calls (c : Int) (w : World) : Calls Tryd.prog 119 #[.int .i64 c] w fun e w' => e = .returned (.func (.func 143) #[] #[.pointer (some ⟨w.heap.size, 0, none⟩)]) ∧ w' = w.alloc (.cells #[.int .i64 c] 3) := by
  go_enter Tryd.func119, Tryd.ntmps119
  go_wp2
  go_ret
  exact ⟨rfl, rfl⟩
def toN (φ : Nat → Int) (n x : Nat) : Nat := (φ x % (n : Int)).toNat
theorem toN_lt {φ : Nat → Int} {n : Nat} (hn : 1 ≤ n) (x : Nat) : toN φ n x < n := by
  have h0 := Int.emod_nonneg (φ x) (show (n : Int) ≠ 0 by omega)
  have h1 := Int.emod_lt_of_pos (φ x) (show (0 : Int) < n by omega)
  unfold toN; omega
theorem mapped_nums {n : Nat} (hn : 1 ≤ n) (hn2 : n ≤ 24) (φ : Nat → Int) (pre : List Nat) (x : Nat) : ∃ (t : Nat) (q1 q2 : Int) (p o o2 : Nat), ((n : Int) == 0) = false ∧ Int.tmod (φ x) (n : Int) = q1 ∧ wrap64 (q1 + (n : Int)) = q2 ∧ Int.tmod q2 (n : Int) = (t : Int) ∧ t ≤ 64 ∧
    IntKind.i64.wrap ((2 : Int) ^ t) = (p : Int) ∧ wrap64 ((2 : Int) ^ t) = (p : Int) ∧ Go.bits .or .i64 (o : Int) (p : Int) = (o2 : Int) ∧ orMap (toN φ n) pre = o ∧ orMap (toN φ n) (pre ++ [x]) = o2 := by
  have h := tmod_mod (a := φ x) (n := (n : Int)) (by omega) (by omega)
  have h0 := Int.emod_nonneg (φ x) (show (n : Int) ≠ 0 by omega)
  have h1 := Int.emod_lt_of_pos (φ x) (show (0 : Int) < n by omega)
  have hl := toN_lt (φ := φ) hn x
  have hp : 2 ^ (toN φ n x) < 2 ^ 24 := Nat.pow_lt_pow_right (by omega) (by omega)
  have ho : orMap (toN φ n) pre < 2 ^ 24 := Nat.lt_of_lt_of_le (orMap_lt (fun y => toN_lt hn y) pre) (Nat.pow_le_pow_right (by omega) hn2)
  have h24 : (2 : Nat) ^ 24 = 16777216 := by decide
  have h63 : (2 : Nat) ^ 63 = 9223372036854775808 := by decide
  refine ⟨toN φ n x, _, _, 2 ^ (toN φ n x), orMap (toN φ n) pre, orMap (toN φ n) pre ||| 2 ^ (toN φ n x), beq_eq_false_iff_ne.2 (by omega), rfl, rfl, ?_, by omega, ?_, ?_, ?_, rfl, orMap_snoc _ _ _⟩
  · rw [h]; unfold toN; omega
  · rw [← pow_cast]; generalize 2 ^ toN φ n x = P at hp ⊢; rw [i64_id (by omega) (by omega)]
  · rw [← pow_cast]; generalize 2 ^ toN φ n x = P at hp ⊢; rw [wrap_id (by omega) (by omega)]
  · rw [or_i64 (by omega) (by omega)]
theorem mapped_calls (φ : Nat → Int) (g : Nat) (lb : Array Value) (eg : ∀ args w, (callFunc g args).run Tryd.prog w = .ok (.enter g args) w) (n c : Nat) (hn : 1 ≤ n) (hn2 : n ≤ 24) (hc : c < 2 ^ n) (w : World) (hT : Tabs w)
    (hto : ∀ (x : Nat) (W : World), x < 24 → Below w.heap.size w W → Calls Tryd.prog g (#[.int .i64 (x : Int)] ++ lb) W fun e w' => e = .returned (.int .i64 (φ x)) ∧ w' = W) :
    Calls Tryd.prog 85 #[.int .i64 (n : Int), .int .i64 (c : Int), .func (.func g) #[] lb] w fun e w' => e = .returned (.int .i64 ((imgN (toN φ n) c : Nat) : Int)) ∧ Below w.heap.size w w' := by
  have HTO := Aside0.mk hto
  have HT := Aside0.mk hT
  have HN := Aside0.mk hn
  have HN2 := Aside0.mk hn2
  have HC := Aside0.mk hc
  clear hto hT hn hn2 hc
  refine (callsIn_wide (n := 3)).1 ?_
  refine callsIn_of_wp_marks Tryd.func85 rfl trivial ?_ rfl
  simp only [Tryd.ntmps85, List.size_toArray, List.length_cons, List.length_nil, Nat.reduceAdd, Nat.reduceSub, Array.replicate_succ, Array.replicate_zero, List.push_toArray, List.append_toArray, List.nil_append, List.cons_append]
  gi_wp2_with (first | (refine ⟨trivial, ?_⟩; gi_at_call 119; refine (callsIn_wide.2 (tones_calls _ _)).mono ?_; rintro e w' ⟨rfl, rfl⟩) | (gi_at_call 119; refine (callsIn_wide.2 (tones_calls _ _)).mono ?_; rintro e w' ⟨rfl, rfl⟩))
  obtain ⟨xs, hxs⟩ := tones_exist c HC.out
  obtain ⟨S, hS⟩ : ∃ S, S = w.heap.size := ⟨_, rfl⟩
  have h24 : c < 2 ^ 24 := Nat.lt_of_lt_of_le HC.out (Nat.pow_le_pow_right (by omega) HN2.out)
  have hS1 : 1 < S := by rw [hS]; exact HT.out.size
  obtain ⟨W0, hW0⟩ : ∃ W0, ((((w.alloc (Obj.cells #[Value.int IntKind.i64 ↑n] 71)).alloc (Obj.cells #[Value.func (Fn.func g) #[] lb] 52)).alloc (Obj.cells #[Value.int IntKind.i64 0] 3)).alloc (Obj.cells #[Value.int IntKind.i64 ↑c] 3)) = W0 := ⟨_, rfl⟩
  rw [hW0, ← hS]
  obtain ⟨c0, c1, c2, c3, f2, f3, z0, B0⟩ := four_new w _ _ _ _ _ _ _ _ S hS W0 hW0
  have T0 : Tabs W0 := HT.out.below (hS ▸ B0)
  have HS := Aside0.mk hS
  clear hS hW0
  refine range_st rfl (by omega) (gf := 143) (lb := #[.pointer (some ⟨S + 1 + 1 + 1, 0, none⟩)]) rfl trivial (enters_of Tryd.func143 (by kernel_rfl) rfl)
    (tones1_seq (S + 1 + 1 + 1) c xs W0 (by omega) (by omega) T0 c3 f3 h24 hxs) (fun _ => rfl)
    (fun A B h => by obtain ⟨_, u, rfl⟩ := h; exact KeepsOthers.setCell _ _ _) (fun h k => ⟨k.1.trans h.1, k.2.trans h.2⟩)
    (fun W l o o' hl _ _ => ⟨World.putObj_heap_other (by omega), World.putObj_heap_other (by omega)⟩)
    (fun pre W => W.cell? ⟨S + 1 + 1, 0, none⟩ = some (.int .i64 ((orMap (toN φ n) pre : Nat) : Int)) ∧ W.frozen? ⟨S + 1 + 1, 0, none⟩ = false ∧ W.cell? ⟨S, 0, none⟩ = some (.int .i64 (n : Int)) ∧ W.cell? ⟨S + 1, 0, none⟩ = some (.func (.func g) #[] lb) ∧ Below S w W)
    (fun _ _ _ => False)
    (fun s A B row hs hg hr => ⟨cell_kept hs.1 hg (fun r e => (hr r e).2), (frozen_kept hs.1 hg (fun r e => (hr r e).2)).trans hs.2.1, cell_kept hs.2.2.1 hg (fun r e => (hr r e).2), cell_kept hs.2.2.2.1 hg (fun r e => (hr r e).2), hs.2.2.2.2.grown hg (by rw [HS.out]; exact hs.2.2.2.2.size) (fun k e => by have := (hr k e).1; omega)⟩)
    (fun _ _ _ _ _ hs _ _ => hs)
    (fun s A B hs h => by
      obtain ⟨_, u, rfl⟩ := h
      exact ⟨(World.cell?_setCell_far _ _ _ _ (by simp only [ne_eq]; omega)).trans hs.1, by rw [World.frozen?_setCell]; exact hs.2.1, (World.cell?_setCell_far _ _ _ _ (by simp only [ne_eq]; omega)).trans hs.2.2.1, (World.cell?_setCell_far _ _ _ _ (by simp only [ne_eq]; omega)).trans hs.2.2.2.1, hs.2.2.2.2.setCell (p := ⟨S + 1 + 1 + 1, 0, none⟩) (by simp; omega) _⟩)
    (fun _ _ _ _ hs _ => hs)
    ⟨c2, f2, c0, c1, B0⟩
    (fun x => { tmps := #[.int .i64 (n : Int), .int .i64 (c : Int), .func (.func g) #[] lb, .pointer (some ⟨S, 0, none⟩), undef, .pointer (some ⟨S + 1, 0, none⟩), .int .i64 0, .pointer (some ⟨S + 1 + 1, 0, none⟩), .int .i64 (x : Int), .int .i64 (c : Int), .func (.func 143) #[] #[.pointer (some ⟨S + 1 + 1 + 1, 0, none⟩)], .int .i64 (x : Int), undef, undef, undef, undef, undef, undef, undef, undef, undef, undef, undef, undef, undef], defers := [] }) ?assign ?body ?done ?stop
  case assign =>
    intro l x W K hK
    gi_wp2
    exact hK
  case body =>
    rintro l pre x rest W hx ⟨d0, g0, d1, d2, hB⟩
    have hx24 : x < 24 := bit_lt h24 ((tones_mem hxs x).1 (by rw [hx]; simp))
    have HG := Aside0.mk (fun q => HTO.out x (W.drewN q) hx24 (HS.out ▸ pw_below_drewN hB q))
    obtain ⟨t, q1, q2, p, o, o2, hne, e1, e2, e3, ht, e4, e5, e6, hd, hd2⟩ := mapped_nums HN.out HN2.out φ pre x
    rw [hd] at d0
    have e2w : IntKind.i64.wrap (q1 + (n : Int)) = q2 := (i64_w _).trans e2
    have hn0 : ¬ n = 0 := by have := HN.out; omega
    have HD2 := Aside0.mk hd2
    have HBB := Aside0.mk hB
    have HX := Aside0.mk hx
    clear hx hx24 hd hd2 hxs c0 c1 c2 c3 f2 f3 z0 B0 T0 h24 hB
    gi_wp2
    refine region_store_lit (by kernel_rfl) (by kernel_rfl) (fun st hst => ?_)
    cases hst
    dsimp only [List.dropLast]
    repeat (refine wpQuietIn_step (fun _ _ _ _ => trivial) (fun K hK => ?_); go_simp; refine hK _ ?_; clear hK K)
    refine wpQuietIn_step (fun _ _ _ _ => trivial) (fun K hK => ?_)
    go_simp
    refine ⟨.int .i64 (φ x), fun q => CallsIn.quiet_of_same (CallsIn.inRound l (callsIn_wide.2 (HG.out q))), hK _ ?_⟩
    clear hK K
    repeat (refine wpQuietIn_step (fun _ _ _ _ => trivial) (fun K hK => ?_); go_simp; refine hK _ ?_; clear hK K)
    refine wpQuietIn_nil ?_
    rintro _ ⟨q, rfl⟩
    dsimp only [List.getLast]
    go_simp
    have hout : (W.drewN q).cell? ⟨S + 1 + 1, 0, none⟩ = some (.int .i64 (o : Int)) := d0
    have hhead : ∀ b, b ≠ S + 1 + 1 → ((W.drewN q).setCell ⟨S + 1 + 1, 0, none⟩ (.int .i64 (o2 : Int))).heap[b]? = W.heap[b]? := fun b hb =>
      Below.heap_setCell (W.drewN q) ⟨S + 1 + 1, 0, none⟩ (.int .i64 (o2 : Int)) b hb
    refine ⟨(show KeepsOthers W (W.drewN q) from ⟨Nat.le_refl _, fun _ _ h _ => h⟩).trans (KeepsOthers.setCell (W.drewN q) _ _), ⟨hhead _ (by omega), hhead _ (by omega)⟩, ?_, ?_, (cell_heap (hhead _ (by omega)) 0).trans d1, (cell_heap (hhead _ (by omega)) 0).trans d2, ?_⟩
    · rw [HD2.out]; exact World.cell?_setCell_same' _ _ _ (by rw [hout]; rfl)
    · rw [World.frozen?_setCell]; exact g0
    · exact (pw_below_drewN HBB.out q).setCell (p := ⟨S + 1 + 1, 0, none⟩) (by show S ≤ S + 1 + 1; omega) _
  case done =>
    rintro D W hD ⟨d0, g0, d1, d2, hB⟩ hK
    rw [imgN_of hxs] at d0
    gi_wp2
    refine ⟨by simp, .inl ⟨_, _, rfl, run_takeDeferred hK, ?_⟩⟩
    exact ⟨_, results_tmp rfl _ _ _, rfl, by rw [← HS.out]; exact hB.grown (grownBy_putObj' W D _) (by rw [HS.out]; exact hB.size) (fun k e => by cases e; omega)⟩
  case stop =>
    rintro D c pre rest W _ _ h _
    exact h.elim
def negTo (x : Nat) : Int := -(x : Int)
def chords_circle_turn.f (a0 a1 : Int) : Option Int := if 1 ≤ a0 ∧ a0 ≤ 24 ∧ 0 ≤ a1 ∧ a1 < 2 ^ a0.toNat then some ((accTo (toN negTo a0.toNat) a1.toNat a0.toNat : Nat) : Int) else none
theorem turn1_calls (x : Nat) (hx : x < 24) (W : World) : Calls Tryd.prog 86 #[.int .i64 (x : Int)] W fun e w' => e = .returned (.int .i64 (negTo x)) ∧ w' = W := by
  have e1 : IntKind.i64.wrap (-(x : Int)) = negTo x := by rw [i64_id (by omega) (by omega)]; rfl
  have e2 : wrap64 (-(x : Int)) = negTo x := by rw [wrap_id (by omega) (by omega)]; rfl
  go_enter Tryd.func86, Tryd.ntmps86
  go_wp2
  go_ret
  exact ⟨by first | rfl | simp [e1, e2], rfl⟩
theorem chords_circle_turn.calls (a0 a1 r : Int) (w : World) (hT : Tabs w) (h : chords_circle_turn.f a0 a1 = some r) :
    Calls Tryd.prog 52 #[.int .i64 a0, .int .i64 a1] w fun e w' => e = .returned (.int .i64 r) ∧ Below w.heap.size w w' := by
  unfold chords_circle_turn.f at h
  by_cases hc : 1 ≤ a0 ∧ a0 ≤ 24 ∧ 0 ≤ a1 ∧ a1 < 2 ^ a0.toNat
  · rw [if_pos hc] at h
    obtain ⟨h1, h24, h0, h2⟩ := hc
    obtain ⟨N, rfl⟩ := Int.eq_ofNat_of_zero_le (show 0 ≤ a0 by omega)
    obtain ⟨C, rfl⟩ := Int.eq_ofNat_of_zero_le h0
    simp only [Int.toNat_natCast] at h h2
    rw [← pow_cast] at h2
    rw [accTo_all (by omega)] at h
    obtain rfl := Option.some.inj h
    have HM := Aside0.mk (mapped_calls negTo 86 #[] (enters_of Tryd.func86 (by kernel_rfl) rfl) N C (by omega) (by omega) (by omega) w hT (fun x W hx _ => turn1_calls x hx W))
    generalize imgN (toN negTo N) C = R at HM ⊢
    clear hT h h1 h24 h0 h2
    go_enter Tryd.func52, Tryd.ntmps52
    go_wp2_with (go_at_call 85; refine HM.out.mono ?_; rintro e w' ⟨rfl, hb⟩)
    go_ret
    exact ⟨by simp, hb⟩
  · rw [if_neg hc] at h; cases h

end Go.Proofs.YtfpnojcbhbkfaaaDoor.P
namespace Go.Proofs.YtfpnojcbhbkfaaaDoor.P
open Go.RowKit Go.Proofs.YtfpnojcbhbkfaaaDoorW.PrintWords Go.Proofs.YtfpnojcbhbkfaaaDoorW.PrintLast Go.Proofs.YtfpnojcbhbkfaaaDoorW.PrintMore
attribute [local go_sem] max2_int min2_int max_two min_two max_three min_three max_four min_four   -- for this text's walks alone
set_option linter.unusedVariables false
set_option linter.unusedSimpArgs false

/-! turned chords -/
theorem nextC_w {d : Nat} (h : d ≤ 1000) : wrap64 ((d : Int) + 1) = ((d + 1 : Nat) : Int) := by rw [wrap_id (by omega) (by omega)]; omega
theorem modC_nat {n d : Nat} (h : d < n) : ((d : Int) % (n : Int)).toNat = d := by rw [Int.emod_eq_of_lt (by omega) (by omega)]; omega
noncomputable def turnN (n c : Nat) : Nat := imgN (toN negTo n) c
theorem turnN_lt {n c : Nat} (hn : 1 ≤ n) (hc : c < 2 ^ n) : turnN n c < 2 ^ n := imgN_lt hc (fun x => toN_lt hn x)
theorem turn_f {n c : Nat} (hn : 1 ≤ n) (hn2 : n ≤ 24) (hc : c < 2 ^ n) : chords_circle_turn.f (n : Int) (c : Int) = some (turnN n c : Int) := by
  unfold chords_circle_turn.f
  rw [Int.toNat_natCast, Int.toNat_natCast, if_pos ⟨by omega, by omega, by omega, by rw [← pow_cast]; omega⟩, accTo_all hc]
  rfl

end Go.Proofs.YtfpnojcbhbkfaaaDoor.P
namespace Go.Proofs.YtfpnojcbhbkfaaaDoor.P
open Go.RowKit Go.Proofs.YtfpnojcbhbkfaaaDoorW.PrintWords Go.Proofs.YtfpnojcbhbkfaaaDoorW.PrintLast Go.Proofs.YtfpnojcbhbkfaaaDoorW.PrintMore
attribute [local go_sem] max2_int min2_int max_two min_two max_three min_three max_four min_four   -- for this text's walks alone
set_option linter.unusedVariables false
set_option linter.unusedSimpArgs false

/-! the images of a chord: a set on which moves and turns act -/
theorem mod2 {n x : Nat} (hx : x < 2 * n) : x % n = if x < n then x else x - n := by
  split
  · rename_i h; exact Nat.mod_eq_of_lt h
  · rename_i h
    rw [Nat.mod_eq_sub_mod (by omega), Nat.mod_eq_of_lt (by omega)]
theorem idx_mm {n i a b : Nat} (hi : i < n) (ha : a < n) (hb : b < n) : ((i + (n - b)) % n + (n - a)) % n = (i + (n - (a + b) % n)) % n := by
  rw [Nat.mod_add_mod, mod2 (x := a + b) (by omega)]
  split
  · rw [show i + (n - b) + (n - a) = i + (n - (a + b)) + n by omega, Nat.add_mod_right]
  · rw [show i + (n - b) + (n - a) = i + (n - (a + b - n)) by omega]
theorem idx_tt {n i : Nat} (hi : i < n) : (n - (n - i) % n) % n = i := by
  rcases Nat.eq_zero_or_pos i with e | e
  · subst e; simp
  · rw [Nat.mod_eq_of_lt (show n - i < n by omega), mod2 (by omega)]; split <;> omega
theorem idx_tm {n i a : Nat} (hi : i < n) (ha : a < n) : ((n - i) % n + (n - a)) % n = (n - (i + (n - (n - a) % n)) % n) % n := by
  rcases Nat.eq_zero_or_pos i with e | e <;> rcases Nat.eq_zero_or_pos a with e2 | e2
  · subst e; subst e2; simp
  · subst e; rw [Nat.sub_zero, Nat.mod_self, Nat.mod_eq_of_lt (show n - a < n by omega)]
    rw [Nat.mod_eq_of_lt (show 0 + (n - a) < n by omega), mod2 (x := 0 + (n - (n - a))) (by omega)]
    split
    · rw [mod2 (by omega)]; split <;> omega
    · omega
  · subst e2; rw [Nat.sub_zero, Nat.mod_self, Nat.mod_eq_of_lt (show n - i < n by omega)]
    rw [mod2 (by omega), mod2 (x := i + (n - 0)) (by omega)]
    split
    · omega
    · split
      · omega
      · rw [mod2 (by omega)]; split <;> omega
  · rw [Nat.mod_eq_of_lt (show n - i < n by omega), Nat.mod_eq_of_lt (show n - a < n by omega)]
    rw [mod2 (x := i + (n - (n - a))) (by omega), mod2 (x := n - i + (n - a)) (by omega)]
    split <;> split
    · rw [mod2 (by omega)]; split <;> omega
    · rw [mod2 (by omega)]; split <;> omega
    · rw [mod2 (by omega)]; split <;> omega
    · rw [mod2 (by omega)]; split <;> omega
theorem toN_neg {n x : Nat} (hx : x < n) : toN negTo n x = (n - x) % n := by
  unfold toN negTo
  rcases Nat.eq_zero_or_pos x with e | e
  · subst e; simp
  · rw [Nat.mod_eq_of_lt (show n - x < n by omega)]
    have : -(x : Int) % (n : Int) = ((n - x : Nat) : Int) := by
      rw [← Int.add_emod_right, Int.emod_eq_of_lt (by omega) (by omega)]; omega
    rw [this, Int.toNat_natCast]
theorem turn_bit {n c i : Nat} (hc : c < 2 ^ n) (hi : i < n) : (turnN n c).testBit i = c.testBit ((n - i) % n) := by
  rw [Bool.eq_iff_iff]
  unfold turnN
  rw [imgN_bit hc]
  constructor
  · rintro ⟨x, hx, he⟩
    have hxn := bit_lt hc hx
    rw [toN_neg hxn] at he
    rw [← he, idx_tt hxn]; exact hx
  · intro h
    refine ⟨_, h, ?_⟩
    rw [toN_neg (Nat.mod_lt _ (by omega)), idx_tt hi]
theorem move_move {n c a b : Nat} (hc : c < 2 ^ n) (ha : a < n) (hb : b < n) : moveN n (moveN n c a) b = moveN n c ((a + b) % n) := by
  refine bits_ext (moveN_lt _ _ _) (moveN_lt _ _ _) (fun i hi => ?_)
  rw [testBit_moveN (moveN_lt _ _ _) hb hi, testBit_moveN hc ha (Nat.mod_lt _ (by omega)), testBit_moveN hc (Nat.mod_lt _ (by omega)) hi, idx_mm hi ha hb]
theorem turn_turn {n c : Nat} (hn : 1 ≤ n) (hc : c < 2 ^ n) : turnN n (turnN n c) = c := by
  refine bits_ext (turnN_lt hn (turnN_lt hn hc)) hc (fun i hi => ?_)
  rw [turn_bit (turnN_lt hn hc) hi, turn_bit hc (Nat.mod_lt _ (by omega)), idx_tt hi]
theorem turn_move {n c a : Nat} (hc : c < 2 ^ n) (ha : a < n) : turnN n (moveN n c a) = moveN n (turnN n c) ((n - a) % n) := by
  have hn : 1 ≤ n := by omega
  refine bits_ext (turnN_lt hn (moveN_lt _ _ _)) (moveN_lt _ _ _) (fun i hi => ?_)
  rw [turn_bit (moveN_lt _ _ _) hi, testBit_moveN hc ha (Nat.mod_lt _ (by omega)), testBit_moveN (turnN_lt hn hc) (Nat.mod_lt _ (by omega)) hi, turn_bit hc (Nat.mod_lt _ (by omega)), idx_tm hi ha]
theorem move_0 {n c : Nat} (hn : 1 ≤ n) (hc : c < 2 ^ n) : moveN n c 0 = c := by
  refine bits_ext (moveN_lt _ _ _) hc (fun i hi => ?_)
  rw [testBit_moveN hc (by omega) hi, Nat.sub_zero, Nat.add_mod_right, Nat.mod_eq_of_lt hi]
theorem move_back {n c a : Nat} (hc : c < 2 ^ n) (ha : a < n) : moveN n (moveN n c a) ((n - a) % n) = c := by
  have hn : 1 ≤ n := by omega
  rw [move_move hc ha (Nat.mod_lt _ hn)]
  have : (a + (n - a) % n) % n = 0 := by
    rcases Nat.eq_zero_or_pos a with e | e
    · subst e; simp
    · rw [Nat.mod_eq_of_lt (show n - a < n by omega), show a + (n - a) = n by omega, Nat.mod_self]
  rw [this, move_0 hn hc]
def IsImg (n c x : Nat) : Prop := ∃ j, j < n ∧ (x = moveN n c j ∨ x = moveN n (turnN n c) j)
theorem IsImg.lt {n c x : Nat} (h : IsImg n c x) : x < 2 ^ n := by
  obtain ⟨j, _, rfl | rfl⟩ := h <;> exact moveN_lt _ _ _
theorem IsImg.refl {n c : Nat} (hn : 1 ≤ n) (hc : c < 2 ^ n) : IsImg n c c := ⟨0, by omega, .inl (move_0 hn hc).symm⟩
theorem IsImg.trans {n c z x : Nat} (hc : c < 2 ^ n) (h : IsImg n c z) (k : IsImg n z x) : IsImg n c x := by
  obtain ⟨j, hj, hz⟩ := h
  obtain ⟨i, hi, hx⟩ := k
  have hn : 1 ≤ n := by omega
  have ht := turnN_lt hn hc
  rcases hz with rfl | rfl <;> rcases hx with rfl | rfl
  · exact ⟨_, Nat.mod_lt _ hn, .inl (move_move hc hj hi)⟩
  · rw [turn_move hc hj, move_move ht (Nat.mod_lt _ hn) hi]; exact ⟨_, Nat.mod_lt _ hn, .inr rfl⟩
  · exact ⟨_, Nat.mod_lt _ hn, .inr (move_move ht hj hi)⟩
  · rw [turn_move ht hj, turn_turn hn hc, move_move hc (Nat.mod_lt _ hn) hi]; exact ⟨_, Nat.mod_lt _ hn, .inl rfl⟩
theorem IsImg.symm {n c z : Nat} (hc : c < 2 ^ n) (h : IsImg n c z) : IsImg n z c := by
  obtain ⟨j, hj, hz⟩ := h
  have hn : 1 ≤ n := by omega
  have ht := turnN_lt hn hc
  rcases hz with rfl | rfl
  · exact ⟨_, Nat.mod_lt _ hn, .inl (move_back hc hj).symm⟩
  · refine ⟨j, hj, .inr ?_⟩
    rw [turn_move ht hj, turn_turn hn hc, move_move hc (Nat.mod_lt _ hn) hj]
    have : ((n - j) % n + j) % n = 0 := by
      rcases Nat.eq_zero_or_pos j with e | e
      · subst e; simp
      · rw [Nat.mod_eq_of_lt (show n - j < n by omega), show n - j + j = n by omega, Nat.mod_self]
    rw [this, move_0 hn hc]
theorem IsImg.iff {n c z x : Nat} (hc : c < 2 ^ n) (h : IsImg n c z) : IsImg n z x ↔ IsImg n c x := ⟨fun k => h.trans hc k, fun k => (h.symm hc).trans h.lt k⟩
/-- how many moves take one chord to another one -/
noncomputable def hits (n a x : Nat) : Nat := cnt n (fun k => decide (moveN n a k = x))
theorem hits_to {n a x j : Nat} (ha : a < 2 ^ n) (hx : x < 2 ^ n) (hj : j < n) : hits n a (moveN n x j) = hits n a x := by
  have hn : 1 ≤ n := by omega
  unfold hits
  rw [← cnt_shift (n - j) (fun k => decide (moveN n a k = x))]
  refine cnt_congr (fun k hk => ?_)
  rw [decide_eq_decide]
  have e : moveN n (moveN n a k) ((n - j) % n) = moveN n a ((k + (n - j)) % n) := by
    rw [move_move ha hk (Nat.mod_lt _ hn), Nat.add_mod_mod]
  constructor
  · intro h; rw [← e, h, move_back hx hj]
  · intro h
    have h2 : moveN n (moveN n (moveN n a k) ((n - j) % n)) j = moveN n x j := by rw [e, h]
    rw [move_move (moveN_lt _ _ _) (Nat.mod_lt _ hn) hj] at h2
    have : ((n - j) % n + j) % n = 0 := by
      rcases Nat.eq_zero_or_pos j with e | e
      · subst e; simp
      · rw [Nat.mod_eq_of_lt (show n - j < n by omega), show n - j + j = n by omega, Nat.mod_self]
    rw [this, move_0 hn (moveN_lt _ _ _)] at h2
    exact h2
theorem hits_from {n a x i : Nat} (ha : a < 2 ^ n) (hi : i < n) : hits n (moveN n a i) x = hits n a x := by
  unfold hits
  rw [← cnt_shift i (fun k => decide (moveN n a k = x))]
  refine cnt_congr (fun k hk => ?_)
  rw [move_move ha hi hk, Nat.add_comm]
theorem cnt_reflect {n : Nat} (p : Nat → Bool) : cnt n (fun k => p ((n - k) % n)) = cnt n p :=
  cnt_perm (f := fun k => (n - k) % n) (fun i hi => Nat.mod_lt _ (by omega)) (fun i hi j hj e => by
    have h1 := congrArg (fun z => (n - z) % n) e
    simp only [idx_tt hi, idx_tt hj] at h1
    exact h1) p
theorem hits_turn {n a x : Nat} (hn : 1 ≤ n) (ha : a < 2 ^ n) (hx : x < 2 ^ n) : hits n (turnN n a) (turnN n x) = hits n a x := by
  unfold hits
  rw [← cnt_reflect (fun k => decide (moveN n (turnN n a) k = turnN n x))]
  refine cnt_congr (fun k hk => ?_)
  rw [decide_eq_decide, ← turn_move ha hk]
  constructor
  · intro h
    have := congrArg (turnN n) h
    rwa [turn_turn hn (moveN_lt _ _ _), turn_turn hn hx] at this
  · intro h; rw [h]
noncomputable def stays (n c : Nat) : Nat := hits n c c
noncomputable def turns (n c : Nat) : Nat := hits n (turnN n c) c
theorem still_img {n c z : Nat} (hc : c < 2 ^ n) (h : IsImg n c z) : stays n z = stays n c ∧ turns n z = turns n c := by
  obtain ⟨j, hj, hz⟩ := h
  have hn : 1 ≤ n := by omega
  have ht := turnN_lt hn hc
  have mv : ∀ a, a < 2 ^ n → stays n (moveN n a j) = stays n a ∧ turns n (moveN n a j) = turns n a := fun a ha => by
    constructor
    · unfold stays; rw [hits_from ha hj, hits_to ha ha hj]
    · unfold turns; rw [turn_move ha hj, hits_from (turnN_lt hn ha) (Nat.mod_lt _ hn), hits_to (turnN_lt hn ha) ha hj]
  have tn : stays n (turnN n c) = stays n c ∧ turns n (turnN n c) = turns n c := by
    constructor
    · unfold stays; exact hits_turn hn hc hc
    · unfold turns
      have := hits_turn hn ht hc
      exact this
  rcases hz with rfl | rfl
  · exact mv c hc
  · exact ⟨(mv _ ht).1.trans tn.1, (mv _ ht).2.trans tn.2⟩
theorem hits_img {n c x : Nat} (hc : c < 2 ^ n) (h : IsImg n c x) : hits n c x + hits n (turnN n c) x = stays n c + turns n c := by
  obtain ⟨j, hj, hz⟩ := h
  have hn : 1 ≤ n := by omega
  have ht := turnN_lt hn hc
  rcases hz with rfl | rfl
  · rw [hits_to hc hc hj, hits_to ht hc hj]; rfl
  · rw [hits_to hc ht hj, hits_to ht ht hj]
    have e1 : hits n c (turnN n c) = turns n c := by
      have := hits_turn hn hc ht
      rw [turn_turn hn hc] at this
      unfold turns; exact this.symm
    have e2 : hits n (turnN n c) (turnN n c) = stays n c := hits_turn hn hc hc
    rw [e1, e2]; omega
theorem cnt_false (n : Nat) : cnt n (fun _ => false) = 0 := by rw [cnt_eq]; simp
theorem cnt_true (n : Nat) : cnt n (fun _ => true) = n := by rw [cnt_eq]; simp
theorem sum_hits {n a : Nat} : ∀ (L : List Nat), L.Nodup → (L.map fun x => hits n a x).sum = cnt n (fun k => decide (moveN n a k ∈ L))
  | [], _ => by simp [cnt_false]
  | x :: L, hd => by
    rw [List.nodup_cons] at hd
    rw [List.map_cons, List.sum_cons, sum_hits L hd.2]
    rw [cnt_split (fun k => decide (moveN n a k ∈ x :: L)) (fun k => decide (moveN n a k = x))]
    unfold hits
    congr 1
    · refine cnt_congr (fun k _ => ?_)
      rw [← Bool.decide_and, decide_eq_decide]
      exact ⟨fun h => ⟨by simp [h], h⟩, fun h => h.2⟩
    · refine cnt_congr (fun k _ => ?_)
      by_cases h : moveN n a k = x
      · have : x ∉ L := hd.1
        simp [h, this]
      · simp [h]
/-- as many images, each as often as what leaves the chord as it is -/
theorem orbit_count {n c : Nat} (hn : 1 ≤ n) (hc : c < 2 ^ n) (L : List Nat) (hd : L.Nodup) (hm : ∀ x, x ∈ L ↔ IsImg n c x) : L.length * (stays n c + turns n c) = 2 * n := by
  have h1 := sum_hits (n := n) (a := c) L hd
  have h2 := sum_hits (n := n) (a := turnN n c) L hd
  have e1 : cnt n (fun k => decide (moveN n c k ∈ L)) = n := by
    have : cnt n (fun k => decide (moveN n c k ∈ L)) = cnt n (fun _ => true) := cnt_congr (fun k hk => decide_eq_true ((hm _).2 ⟨k, hk, .inl rfl⟩))
    rw [this, cnt_true]
  have e2 : cnt n (fun k => decide (moveN n (turnN n c) k ∈ L)) = n := by
    have : cnt n (fun k => decide (moveN n (turnN n c) k ∈ L)) = cnt n (fun _ => true) := cnt_congr (fun k hk => decide_eq_true ((hm _).2 ⟨k, hk, .inr rfl⟩))
    rw [this, cnt_true]
  rw [e1] at h1; rw [e2] at h2
  have h3 : ∀ M : List Nat, (∀ x ∈ M, x ∈ L) → (M.map fun x => hits n c x).sum + (M.map fun x => hits n (turnN n c) x).sum = M.length * (stays n c + turns n c) := by
    intro M
    induction M with
    | nil => intro _; simp
    | cons x M ih =>
      intro hM
      have := ih (fun y hy => hM y (List.mem_cons_of_mem _ hy))
      have hx := hits_img hc ((hm x).1 (hM x (by simp)))
      simp only [List.map_cons, List.sum_cons, List.length_cons, Nat.succ_mul]
      omega
  have := h3 L (fun x hx => hx)
  omega
/-- the vector is the same for all images -/
theorem common_move {n c j d : Nat} (hc : c < 2 ^ n) (hj : j < n) (hd : d < n) : common n (moveN n c j) (moveN n c j) d = common n c c d := by
  rw [common_cnt, common_cnt, ← cnt_shift (n - j) (fun i => c.testBit i && c.testBit ((i + (n - d)) % n))]
  refine cnt_congr (fun i hi => ?_)
  have hn : 1 ≤ n := by omega
  rw [testBit_moveN hc hj hi, testBit_moveN hc hj (Nat.mod_lt _ hn)]
  congr 2
  rw [Nat.mod_add_mod, Nat.mod_add_mod]
  congr 1; omega
theorem common_turn {n c d : Nat} (hn : 1 ≤ n) (hc : c < 2 ^ n) (hd : d < n) : common n (turnN n c) (turnN n c) d = common n c c d := by
  rw [common_cnt, common_cnt]
  have e1 : cnt n (fun i => (turnN n c).testBit i && (turnN n c).testBit ((i + (n - d)) % n)) = cnt n (fun i => (fun k => c.testBit k && c.testBit ((k + d) % n)) ((n - i) % n)) := by
    refine cnt_congr (fun i hi => ?_)
    rw [turn_bit hc hi, turn_bit hc (Nat.mod_lt _ hn)]
    congr 2
    have := idx_tm (n := n) (i := i) (a := (n - d) % n) hi (Nat.mod_lt _ hn)
    rw [idx_tt hd] at this
    rw [← this]
    have e3 : (n - (n - d) % n) = if d = 0 then n else d := by
      rcases Nat.eq_zero_or_pos d with e | e
      · subst e; simp
      · rw [Nat.mod_eq_of_lt (show n - d < n by omega), if_neg (by omega)]; omega
    rw [e3]
    split
    · rename_i e; subst e; rw [Nat.add_mod_right, Nat.add_zero]
    · rfl
  rw [e1, cnt_reflect (fun k => c.testBit k && c.testBit ((k + d) % n)), ← cnt_shift d (fun i => c.testBit i && c.testBit ((i + (n - d)) % n))]
  refine cnt_congr (fun i hi => ?_)
  have e2 : ((i + d) % n + (n - d)) % n = i := by rw [Nat.mod_add_mod, show i + d + (n - d) = i + n by omega, Nat.add_mod_right, Nat.mod_eq_of_lt hi]
  rw [e2, Bool.and_comm]
theorem vec_img {n c z : Nat} (hn : 2 ≤ n) (hc : c < 2 ^ n) (h : IsImg n c z) : vecOf n z = vecOf n c := by
  have hcm : ∀ d, d < n → common n z z d = common n c c d := by
    intro d hd
    obtain ⟨j, hj, hz⟩ := h
    rcases hz with rfl | rfl
    · exact common_move hc hj hd
    · rw [common_move (turnN_lt (by omega) hc) hj hd, common_turn (by omega) hc hd]
  rw [vecOf_eq, vecOf_eq]
  refine List.map_congr_left (fun i hi => ?_)
  have hi' := List.mem_range.1 hi
  unfold vecAt
  rw [hcm (i + 1) (by omega)]

end Go.Proofs.YtfpnojcbhbkfaaaDoor.P
namespace Go.Proofs.YtfpnojcbhbkfaaaDoor.P
open Go.RowKit Go.Proofs.YtfpnojcbhbkfaaaDoorW.PrintWords Go.Proofs.YtfpnojcbhbkfaaaDoorW.PrintLast Go.Proofs.YtfpnojcbhbkfaaaDoorW.PrintMore
attribute [local go_sem] max2_int min2_int max_two min_two max_three min_three max_four min_four   -- for this text's walks alone
set_option linter.unusedVariables false
set_option linter.unusedSimpArgs false

/-! what lies in some blocks stays -/
structure Fr (P : Nat → Prop) (w w' : World) : Prop where
  os : w'.os = w.os
  tape : w'.tape = w.tape
  output : w'.output = w.output
  size : w.heap.size ≤ w'.heap.size
  block : ∀ k, P k → w'.heap[k]? = w.heap[k]?
theorem Fr.refl (P : Nat → Prop) (w : World) : Fr P w w := ⟨rfl, rfl, rfl, Nat.le_refl _, fun _ _ => rfl⟩
theorem Fr.trans {P : Nat → Prop} {a b c : World} (h : Fr P a b) (k : Fr P b c) : Fr P a c := ⟨k.os.trans h.os, k.tape.trans h.tape, k.output.trans h.output, Nat.le_trans h.size k.size, fun i hi => (k.block i hi).trans (h.block i hi)⟩
theorem Fr.mono {P Q : Nat → Prop} {a b : World} (h : Fr P a b) (hq : ∀ k, Q k → P k) : Fr Q a b := ⟨h.os, h.tape, h.output, h.size, fun i hi => h.block i (hq i hi)⟩
theorem Fr.alloc {P : Nat → Prop} (w : World) (o : Obj) (h : ∀ k, P k → k < w.heap.size) : Fr P w (w.alloc o) := ⟨rfl, rfl, rfl, by simp, fun k hk => Below.heap_alloc _ _ _ (h k hk)⟩
theorem Fr.setCell {P : Nat → Prop} (w : World) {p : Addr} (u : Value) (h : ¬ P p.block) : Fr P w (w.setCell p u) := ⟨rfl, rfl, rfl, by simp [World.setCell], fun k hk => Below.heap_setCell _ _ _ _ (fun e => h (e ▸ hk))⟩
theorem Fr.drewN (P : Nat → Prop) (w : World) (q : Nat) : Fr P w (w.drewN q) := by
  have := pw_below_drewN (Below.refl w.heap.size w) q
  exact ⟨this.os, this.tape, this.output, this.size, fun _ _ => rfl⟩
theorem Fr.drew (P : Nat → Prop) (w : World) : Fr P w w.drew := ⟨rfl, rfl, rfl, Nat.le_refl _, fun _ _ => rfl⟩
theorem Fr.grown {P : Nat → Prop} {w w' : World} {row : Option Nat} (hg : w.grownBy w' row) (hlt : ∀ k, P k → k < w.heap.size) (hr : ∀ k, row = some k → ¬ P k) : Fr P w w' :=
  ⟨hg.os, hg.tape, hg.output, hg.size, fun k hk => hg.block k (hlt k hk) (fun e => hr k e.symm hk)⟩
theorem Fr.of_below {P : Nat → Prop} {B : Nat} {w w' : World} (h : Below B w w') (hp : ∀ k, P k → k < B) : Fr P w w' := ⟨h.os, h.tape, h.output, h.size, fun k hk => h.block k (hp k hk)⟩
theorem Fr.below {P : Nat → Prop} {B : Nat} {w w' : World} (h : Fr P w w') (hp : ∀ k, k < B → P k) : Below B w w' := ⟨h.os, h.tape, h.output, h.size, fun k hk => h.block k (hp k hk)⟩
theorem Fr.cell {P : Nat → Prop} {w w' : World} (h : Fr P w w') {b : Nat} (hb : P b) (i : Nat) : w'.cell? ⟨b, i, none⟩ = w.cell? ⟨b, i, none⟩ := by unfold World.cell?; simp only [h.block b hb]
theorem Fr.frozen {P : Nat → Prop} {w w' : World} (h : Fr P w w') {b : Nat} (hb : P b) (i : Nat) : w'.frozen? ⟨b, i, none⟩ = w.frozen? ⟨b, i, none⟩ := by unfold World.frozen?; simp only [h.block b hb]
/-- a row of ints that is read leads to what lies there now -/
theorem F_of_C {w : World} {A : Option Addr} {m : Nat} {xs : List Int} (h : Kd.C (Kd.int .i64) w A m xs) : Kd.F (Kd.int .i64) w (fun k => k < w.heap.size) A m xs := fun W' hW => by
  obtain ⟨h1, h2, h3⟩ := h
  refine ⟨h1, h2, fun hn => ?_⟩
  obtain ⟨ad, e, hc⟩ := h3 hn
  refine ⟨ad, e, fun j p hp => ?_⟩
  obtain ⟨c, hcl, hR, hcc⟩ := hc j p hp
  refine ⟨c, hcl, hR, fun i u hu => ?_⟩
  have h4 := hcc i u hu
  rw [World.cell?_of_block (hW _ (World.block_lt_of_cell? w _ h4) (World.block_lt_of_cell? w _ h4))]
  exact h4
theorem V_of_C {e base : Nat} {w : World} {A : Option Addr} {c : Nat} {xs : List Int} (h : Kd.C (Kd.int .i64) w A xs.length xs) (hc : xs.length ≤ c) : Kd.V (Kd.int .i64) e w base (fun k => k < w.heap.size) (.slice A xs.length c) xs := Kd.V_mk hc (F_of_C h)

end Go.Proofs.YtfpnojcbhbkfaaaDoor.P
namespace Go.Proofs.YtfpnojcbhbkfaaaDoor.P
open Go.RowKit Go.Proofs.YtfpnojcbhbkfaaaDoorW.PrintWords Go.Proofs.YtfpnojcbhbkfaaaDoorW.PrintLast Go.Proofs.YtfpnojcbhbkfaaaDoorW.PrintMore
attribute [local go_sem] max2_int min2_int max_two min_two max_three min_three max_four min_four   -- for this text's walks alone
set_option linter.unusedVariables false
set_option linter.unusedSimpArgs false

/-! a bit of a small set, and a set with one tone more, as the walk spells them -/
theorem bit_div {a x : Nat} (ha : a < 2 ^ 63) (hx : x ≤ 64) : ∃ sh : Int, (a : Int) / 2 ^ x = sh ∧ Go.bits .and .i64 sh 1 = if a.testBit x then 1 else 0 := by
  refine ⟨_, rfl, ?_⟩
  have h := bit_i64 ha hx
  unfold shr at h
  rw [Int.toNat_natCast, show min x IntKind.i64.bits = x from Nat.min_eq_left (by show x ≤ 64; omega)] at h
  exact h
theorem one_more {n b k : Nat} (hn : n ≤ 62) (hb : b < 2 ^ n) (hk : k < n) : ∃ p2 b2 : Nat, IntKind.i64.wrap ((2 : Int) ^ k) = (p2 : Int) ∧ wrap64 ((2 : Int) ^ k) = (p2 : Int) ∧ Go.bits .or .i64 (b : Int) (p2 : Int) = (b2 : Int) ∧ b ||| 2 ^ k = b2 ∧ b2 < 2 ^ n := by
  have hp : 2 ^ k < 2 ^ n := Nat.pow_lt_pow_right (by omega) hk
  have h63 : 2 ^ n < 2 ^ 63 := Nat.pow_lt_pow_right (by omega) (by omega)
  have h63v : (2 : Nat) ^ 63 = 9223372036854775808 := by decide
  refine ⟨2 ^ k, b ||| 2 ^ k, ?_, ?_, or_i64 (by omega) (by omega), rfl, Nat.or_lt_two_pow hb hp⟩
  · rw [← pow_cast]; generalize 2 ^ k = P at hp ⊢; rw [i64_id (by omega) (by omega)]
  · rw [← pow_cast]; generalize 2 ^ k = P at hp ⊢; rw [wrap_id (by omega) (by omega)]

end Go.Proofs.YtfpnojcbhbkfaaaDoor.P
namespace Go.Proofs.YtfpnojcbhbkfaaaDoor.P
open Go.RowKit Go.Proofs.YtfpnojcbhbkfaaaDoorW.PrintWords Go.Proofs.YtfpnojcbhbkfaaaDoorW.PrintLast Go.Proofs.YtfpnojcbhbkfaaaDoorW.PrintMore
attribute [local go_sem] max2_int min2_int max_two min_two max_three min_three max_four min_four   -- for this text's walks alone
set_option linter.unusedVariables false
set_option linter.unusedSimpArgs false

/-! voices.leadings: all leadings, in order, handed to a function that keeps what the walk goes by -/
def nums (l : List Nat) : List Int := l.map Int.ofNat
def ldg (k : Nat) : Nat → Nat → List Nat → List (List Nat)
  | 0, _, cur => [cur]
  | r + 1, used, cur => (List.range k).flatMap fun x => if used.testBit x then [] else ldg k r (used ||| 2 ^ x) (cur ++ [x])
def ldgTo (k r used : Nat) (cur : List Nat) (m : Nat) : List (List Nat) := (List.range m).flatMap fun x => if used.testBit x then [] else ldg k r (used ||| 2 ^ x) (cur ++ [x])
theorem ldgTo_succ (k r used : Nat) (cur : List Nat) (m : Nat) : ldgTo k r used cur (m + 1) = ldgTo k r used cur m ++ (if used.testBit m then [] else ldg k r (used ||| 2 ^ m) (cur ++ [m])) := by
  unfold ldgTo; rw [List.range_succ]; simp
section
variable (S k g : Nat) (lb : Array Value) (P : World → Nat → Prop) (J : List (List Nat) → World → Prop)
def growV : Value := .func (.func 133) #[] #[.pointer (some ⟨S + 1 + 1, 0, none⟩), .pointer (some ⟨S, 0, none⟩), .pointer (some ⟨S + 1, 0, none⟩), .pointer (some ⟨S + 1 + 1 + 1, 0, none⟩)]
structure LdSt (cur : List Nat) (W : World) : Prop where
  ck : W.cell? ⟨S, 0, none⟩ = some (.int .i64 (k : Int))
  cm : W.cell? ⟨S + 1, 0, none⟩ = some (.func (.func g) #[] lb)
  cl : ∃ A c, W.cell? ⟨S + 1 + 1, 0, none⟩ = some (.slice A (nums cur).length c) ∧ Kd.R (Kd.int .i64) 3 W (S + 4) (fun i => ¬ P W i) (.slice A (nums cur).length c) (nums cur)
  fl : W.frozen? ⟨S + 1 + 1, 0, none⟩ = false
  cg : W.cell? ⟨S + 1 + 1 + 1, 0, none⟩ = some (growV S)
def GrowPost (cur : List Nat) (L : List (List Nat)) (e : Ending) (w' : World) : Prop := e = .returned (.bool true) ∧ J L w' ∧ LdSt S k g lb P cur w'
structure Inter : Prop where
  keep : ∀ s A B, J s A → Fr (P A) A B → J s B ∧ ∀ i, P B i ↔ P A i
  lt : ∀ s A i, J s A → P A i → i < A.heap.size
  box : ∀ s A i, J s A → S ≤ i → i < S + 4 → ¬ P A i
def MoreCalls : Prop := ∀ (pre : List (List Nat)) (x : List Nat) (A : Option Addr) (c : Nat) (W : World), J pre W → x.length = k → (∀ y ∈ x, y < k) → (nums x).length ≤ c → Kd.C (Kd.int .i64) W A (nums x).length (nums x) → (∀ b, A = some b → S + 4 ≤ b.block) →
  Calls Tryd.prog g (#[.slice A (nums x).length c] ++ lb) W fun e W' => e = .returned (.bool true) ∧ J (pre ++ [x]) W' ∧ Fr (fun i => S ≤ i ∧ i < W.heap.size) W W' ∧ (∀ i, P W' i → P W i ∨ W.heap.size ≤ i)
theorem nums_length (l : List Nat) : (nums l).length = l.length := by simp [nums]
theorem nums_snoc (l : List Nat) (x : Nat) : nums (l ++ [x]) = nums l ++ [(x : Int)] := by simp [nums]
variable {S k g lb P J}
/-- the part of the walk that stands still, over a step that leaves it -/
theorem LdSt.move {cur : List Nat} {W W' : World} (h : LdSt S k g lb P cur W) (hf : Fr (fun i => S ≤ i ∧ i < W.heap.size) W W') (hP : ∀ i, P W' i → P W i ∨ W.heap.size ≤ i) : LdSt S k g lb P cur W' := by
  obtain ⟨h1, h2, ⟨A, c, h3, h4⟩, h5, h6⟩ := h
  have lt : ∀ {a : Addr} {v : Value}, W.cell? a = some v → a.block < W.heap.size := fun h => World.block_lt_of_cell? W _ h
  have l1 := lt h1; have l2 := lt h2; have l3 := lt h3; have l6 := lt h6
  simp only at l1 l2 l3 l6
  refine ⟨(hf.cell ⟨by omega, l1⟩ 0).trans h1, (hf.cell ⟨by omega, l2⟩ 0).trans h2, ⟨A, c, (hf.cell ⟨by omega, l3⟩ 0).trans h3, ?_⟩, (hf.frozen ⟨by omega, l3⟩ 0).trans h5, (hf.cell ⟨by omega, l6⟩ 0).trans h6⟩
  have h7 := Kd.R_bound h4
  have h8 := Kd.R_move (w1 := W') h7 (fun i hi => hf.block i ⟨by omega, hi.2.2.1⟩)
  refine Kd.R_mono h8 (fun i hi hp => ?_)
  rcases hP i hp with h9 | h9
  · exact hi.1 h9
  · have := hi.2.2.1; omega
theorem LdSt.drewN {cur : List Nat} {W : World} (h : LdSt S k g lb P cur W) {s : List (List Nat)} (hI : Inter S P J) (hJ : J s W) (q : Nat) : LdSt S k g lb P cur (W.drewN q) :=
  h.move (Fr.drewN _ W q) (fun i hi => .inl (((hI.keep s W _ hJ (Fr.drewN _ W q)).2 i).1 hi))
end
section
variable {S k g : Nat} {lb : Array Value} {P : World → Nat → Prop} {J : List (List Nat) → World → Prop}
set_option maxHeartbeats 2000000 in
set_option maxRecDepth 100000 in
theorem grow_end (eg : ∀ args w, (callFunc g args).run Tryd.prog w = .ok (.enter g args) w) (hk : k ≤ 100) (hM : MoreCalls S k g lb P J) (used : Nat) (cur : List Nat) (pre : List (List Nat)) (W : World) (hc : cur.length = k) (hcur : ∀ y ∈ cur, y < k) (hJ : J pre W) (hL : LdSt S k g lb P cur W) :
    Calls Tryd.prog 133 #[.int .i64 (used : Int), .pointer (some ⟨S + 1 + 1, 0, none⟩), .pointer (some ⟨S, 0, none⟩), .pointer (some ⟨S + 1, 0, none⟩), .pointer (some ⟨S + 1 + 1 + 1, 0, none⟩)] W
      (GrowPost S k g lb P J cur (pre ++ [cur])) := by
  have HL := Aside0.mk hL
  obtain ⟨A, c, cl, hR⟩ := hL.cl
  have ck := hL.ck
  have cm := hL.cm
  have hlen : (nums cur).length = k := by rw [nums_length, hc]
  have hrd := Kd.R_reads' hR
  have hbase := Kd.R_base hR
  have HC := Aside0.mk (hM pre cur A c W hJ hc hcur hrd.2.1 hrd.2.2 (fun b hb => hbase b.block (by rw [hb]; rfl)))
  rw [hlen] at cl HC
  clear hL hR hrd hbase hlen hc hcur hJ hM
  go_enter Tryd.func133, Tryd.ntmps133
  go_wp2_with ((with_reducible refine HC.out.mono ?_); rintro e w' ⟨rfl, hj, hf, hp⟩)
  go_ret
  exact ⟨rfl, hj, HL.out.move hf hp⟩
set_option maxHeartbeats 4000000 in
set_option maxRecDepth 100000 in
theorem grow_more (hk : k ≤ 20) (hI : Inter S P J) (used r : Nat) (cur : List Nat) (pre : List (List Nat)) (W : World) (hc : cur.length + (r + 1) = k) (hu : used < 2 ^ k) (hJ : J pre W) (hL : LdSt S k g lb P cur W)
    (ih : ∀ (x b : Nat) (pre : List (List Nat)) (W : World), x < k → used.testBit x = false → used ||| 2 ^ x = b → J pre W → LdSt S k g lb P (cur ++ [x]) W →
      Calls Tryd.prog 133 #[.int .i64 (b : Int), .pointer (some ⟨S + 1 + 1, 0, none⟩), .pointer (some ⟨S, 0, none⟩), .pointer (some ⟨S + 1, 0, none⟩), .pointer (some ⟨S + 1 + 1 + 1, 0, none⟩)] W
        (GrowPost S k g lb P J (cur ++ [x]) (pre ++ ldg k r b (cur ++ [x])))) :
    Calls Tryd.prog 133 #[.int .i64 (used : Int), .pointer (some ⟨S + 1 + 1, 0, none⟩), .pointer (some ⟨S, 0, none⟩), .pointer (some ⟨S + 1, 0, none⟩), .pointer (some ⟨S + 1 + 1 + 1, 0, none⟩)] W
      (GrowPost S k g lb P J cur (pre ++ ldgTo k r used cur k)) := by
  have HL := Aside0.mk hL
  have HJ := Aside0.mk hJ
  have HI := Aside0.mk hI
  have HIH := Aside0.mk ih
  have HU := Aside0.mk hu
  obtain ⟨A, c, cl, hR⟩ := hL.cl
  have ck := hL.ck
  obtain ⟨L, hlen⟩ : ∃ L, (nums cur).length = L := ⟨_, rfl⟩
  have hLk : L < k := by rw [nums_length] at hlen; omega
  rw [hlen] at cl
  have HLEN := Aside0.mk hlen
  have hne : ((L : Int) == (k : Int)) = false := beq_eq_false_iff_ne.2 (by omega)
  clear hL hR hlen hc hJ hI ih hu
  go_enter Tryd.func133, Tryd.ntmps133
  go_wp2
  go_loopg [17] k (fun gg s17 wr => ∃ x : Nat, s17 = .int .i64 x ∧ Aside0 (x + gg = k) ∧ Aside0 (J (pre ++ ldgTo k r used cur x) wr) ∧ Aside0 (LdSt S k g lb P cur wr))
  case atStart => exact ⟨0, rfl, ⟨by omega⟩, ⟨by show J (pre ++ []) _; rw [List.append_nil]; exact HJ.out⟩, HL⟩
  case round =>
    clear HL HJ cl ck hne
    obtain ⟨x, rfl, HX, HJ, HL⟩ := hrel
    have HS := Aside0.mk (ldgTo_succ k r used cur x)
    by_cases hlt : x < k
    · have hltz : (x : Int) < (k : Int) := by omega
      have hx64 : x ≤ 64 := by omega
      obtain ⟨sh, hsh, hbit⟩ := bit_div (a := used) (x := x) (Nat.lt_of_lt_of_le HU.out (Nat.pow_le_pow_right (by omega) (by omega))) (by omega)
      cases hb : used.testBit x with
      | true =>
        rw [hb, if_pos rfl] at hbit
        rw [hb, if_pos rfl, List.append_nil] at HS
        clear hb
        go_wp2
        go_roundg (gk - 1)
        case measure => have := HX.out; omega
        case rel => exact ⟨x + 1, by go_num, ⟨by have := HX.out; omega⟩, ⟨by rw [HS.out]; exact HJ.out⟩, HL⟩
      | false =>
        rw [hb, if_neg (by decide)] at hbit
        rw [hb, if_neg (by decide)] at HS
        have HBX := Aside0.mk hb
        clear hb
        obtain ⟨p2, b2, r1, r2, r3, hb2, hb2l⟩ := one_more (show k ≤ 62 by omega) HU.out hlt
        rw [hb2] at HS
        have HB2 := Aside0.mk hb2
        clear hb2 hb2l
        obtain ⟨A, c, cl, hR⟩ := HL.out.cl
        rw [HLEN.out] at cl hR
        have HR := Aside0.mk hR
        have fl := HL.out.fl
        have hsz : S + 4 ≤ wr.heap.size := by have := World.block_lt_of_cell? wr _ HL.out.cg; simp only at this; omega
        have HSL := Aside0.mk (show (nums cur ++ [(x : Int)]).length = L + 1 by rw [List.length_append, HLEN.out]; rfl)
        clear hR
        go_wp2_with (((with_reducible refine gate_builtin (b := .append) (xs := #[.tmp 25, .tmp 27]) rfl ?_); at_builtin; refine Kd.R_append (Kd.int .i64) (w0 := wr) (S + 4) rfl (.tmp 25) (.tmp 27) 22 3 (.int .i64 0) 8 rfl Tryd.underlying22 info3 rfl (by decide) (by omega) (.slice A L c) (nums cur) (x : Int) [.int .i64 (x : Int)] (fun i => ¬ P wr i) (fun _ => False) rfl rfl ?aP (fun _ hk => hk.elim) ?aF ?aO ?aB ?aS ?aL ?_; (case aP => exact rfl); (case aB => exact Below.refl _ _); (case aF => exact (fun i hi hp => by have := HI.out.lt _ _ _ HJ.out hp; omega)); (case aO => exact HR.out); (case aS => exact hsz); (case aL => have := HLEN.out; omega); intro v1 w1 ho hb hg hat; obtain ⟨A1, c1, e1⟩ := Kd.R_slice ho; rw [HSL.out] at e1; subst e1; have hfr : Fr (fun i => S ≤ i ∧ i < S + 4) wr w1 := Fr.grown hg (fun i hi => by omega) (fun i hi => by have := Kd.R_base HR.out i hi; omega); have fl1 : w1.frozen? ⟨S + 1 + 1, 0, none⟩ = false := (hfr.frozen ⟨by omega, by omega⟩ 0).trans fl; have cl1 : w1.cell? ⟨S + 1 + 1, 0, none⟩ = some (.slice A L c) := (hfr.cell ⟨by omega, by omega⟩ 0).trans cl; have HFR := Aside0.mk hfr; have HO := Aside0.mk ho; have HG := Aside0.mk hg; clear hfr ho hg hb hat fl cl))
        have hsz1 : wr.heap.size ≤ w1.heap.size := HG.out.size
        have hnP : ¬ P wr (S + 1 + 1) := HI.out.box _ _ _ HJ.out (by omega) (by omega)
        have HF2 : Aside0 (Fr (P wr) wr (w1.setCell ⟨S + 1 + 1, 0, none⟩ (.slice A1 (L + 1) c1))) := ⟨(Fr.grown HG.out (fun i hi => HI.out.lt _ _ _ HJ.out hi) (fun i hi => HR.out.1 i hi)).trans (Fr.setCell _ _ hnP)⟩
        have HK2 := Aside0.mk (HI.out.keep _ _ _ HJ.out HF2.out)
        have HL2 : Aside0 (LdSt S k g lb P (cur ++ [x]) (w1.setCell ⟨S + 1 + 1, 0, none⟩ (.slice A1 (L + 1) c1))) := ⟨by
          have hb2 : ∀ b, b ≠ S + 1 + 1 → (w1.setCell ⟨S + 1 + 1, 0, none⟩ (.slice A1 (L + 1) c1)).heap[b]? = w1.heap[b]? := fun b h => Below.heap_setCell _ _ _ _ h
          have hcb : ∀ b, b ≠ S + 1 + 1 → S ≤ b → b < S + 4 → (w1.setCell ⟨S + 1 + 1, 0, none⟩ (.slice A1 (L + 1) c1)).cell? ⟨b, 0, none⟩ = wr.cell? ⟨b, 0, none⟩ := fun b h h1 h2 => (by unfold World.cell?; simp only [hb2 b h] : _ = w1.cell? ⟨b, 0, none⟩).trans (HFR.out.cell ⟨h1, h2⟩ 0)
          refine ⟨(hcb _ (by omega) (by omega) (by omega)).trans HL.out.ck, (hcb _ (by omega) (by omega) (by omega)).trans HL.out.cm, ⟨A1, c1, ?_, ?_⟩, by rw [World.frozen?_setCell]; exact fl1, (hcb _ (by omega) (by omega) (by omega)).trans HL.out.cg⟩
          · rw [nums_snoc, HSL.out]; exact World.cell?_setCell_same' _ _ _ (by rw [cl1]; rfl)
          · rw [nums_snoc, HSL.out]
            refine Kd.R_mono (Kd.R_far (ok := fun i => ¬ P wr i ∧ i ≠ S + 1 + 1) (Kd.R_mono (Kd.R_bound HO.out) (fun i hi => ⟨hi.1, by have := hi.2.1; omega⟩)) (fun i hi => hi.2) _) (fun i hi hp => hi.1 ((HK2.out.2 i).1 hp))⟩
        generalize w1.setCell ⟨S + 1 + 1, 0, none⟩ (.slice A1 (L + 1) c1) = w2 at HF2 HK2 HL2 ⊢
        have cg2 : w2.cell? ⟨S + 1 + 1 + 1, 0, none⟩ = some (.func (.func 133) #[] #[.pointer (some ⟨S + 1 + 1, 0, none⟩), .pointer (some ⟨S, 0, none⟩), .pointer (some ⟨S + 1, 0, none⟩), .pointer (some ⟨S + 1 + 1 + 1, 0, none⟩)]) := HL2.out.cg
        have HCALL := Aside0.mk (HIH.out x b2 (pre ++ ldgTo k r used cur x) w2.drew hlt HBX.out HB2.out (HI.out.keep _ _ _ HK2.out.1 (Fr.drew _ w2)).1 (HL2.out.drewN HI.out HK2.out.1 1))
        clear fl1 cl1 hsz1 hnP HFR HG HR HO HF2 HK2 HL2
        go_still_tail 5, (by kernel_rfl)
        have HSN := Aside0.mk (show (nums (cur ++ [x])).length = L + 1 by rw [nums_snoc]; exact HSL.out)
        go_wp2_with fail
        refine HCALL.out.mono ?_
        rintro e w3 ⟨rfl, hj3, hl3⟩
        obtain ⟨A3, c3, cl3, hr3⟩ := hl3.cl
        rw [HSN.out] at cl3 hr3
        have fl3 := hl3.fl
        have hc3 : L + 1 ≤ c3 := (Kd.R_reads' hr3).2.1
        have hc3z : (L : Int) ≤ (c3 : Int) := by omega
        have HR3 := Aside0.mk hr3
        have HL3 := Aside0.mk hl3
        have HJ3 := Aside0.mk hj3
        clear hr3 hl3 hj3
        go_wp2
        have hP3 : ¬ P w3 (S + 1 + 1) := HI.out.box _ _ _ HJ3.out (by omega) (by omega)
        have hK4 := HI.out.keep _ _ _ HJ3.out (Fr.setCell w3 (p := ⟨S + 1 + 1, 0, none⟩) (.slice A3 L c3) hP3)
        go_roundg (gk - 1)
        case measure => have := HX.out; omega
        case rel =>
          refine ⟨x + 1, by go_num, ⟨by have := HX.out; omega⟩, ⟨?_⟩, ⟨?_⟩⟩
          · rw [HS.out, ← List.append_assoc]; exact hK4.1
          · have hb2 : ∀ b, b ≠ S + 1 + 1 → (w3.setCell ⟨S + 1 + 1, 0, none⟩ (.slice A3 L c3)).cell? ⟨b, 0, none⟩ = w3.cell? ⟨b, 0, none⟩ := fun b h => by unfold World.cell?; simp only [Below.heap_setCell w3 ⟨S + 1 + 1, 0, none⟩ (.slice A3 L c3) b h]
            refine ⟨(hb2 _ (by omega)).trans HL3.out.ck, (hb2 _ (by omega)).trans HL3.out.cm, ⟨A3, c3, ?_, ?_⟩, by rw [World.frozen?_setCell]; exact fl3, (hb2 _ (by omega)).trans HL3.out.cg⟩
            · rw [HLEN.out]; exact World.cell?_setCell_same' _ _ _ (by rw [cl3]; rfl)
            · rw [HLEN.out]
              have ht := Kd.R_take HR3.out (m := L) (by rw [HSN.out]; omega)
              rw [nums_snoc, List.take_left' HLEN.out] at ht
              refine Kd.R_mono (Kd.R_far (ok := fun i => ¬ P w3 i ∧ i ≠ S + 1 + 1) (Kd.R_mono (Kd.R_bound ht) (fun i hi => ⟨hi.1, by have := hi.2.1; omega⟩)) (fun i hi => hi.2) _) (fun i hi hp => hi.1 ((hK4.2 i).1 hp))
    · have hxk : x = k := by have := HX.out; omega
      have HXK := Aside0.mk hxk
      clear hxk
      have hltz : ¬ (x : Int) < (k : Int) := by omega
      go_wp2
      go_ret
      have hj := HJ.out
      rw [HXK.out] at hj
      exact ⟨rfl, hj, HL.out⟩
theorem grow_calls (eg : ∀ args w, (callFunc g args).run Tryd.prog w = .ok (.enter g args) w) (hk : k ≤ 20) (hI : Inter S P J) (hM : MoreCalls S k g lb P J) : ∀ (r used : Nat) (cur : List Nat) (pre : List (List Nat)) (W : World), cur.length + r = k → (∀ y ∈ cur, y < k) → used < 2 ^ k → J pre W → LdSt S k g lb P cur W →
    Calls Tryd.prog 133 #[.int .i64 (used : Int), .pointer (some ⟨S + 1 + 1, 0, none⟩), .pointer (some ⟨S, 0, none⟩), .pointer (some ⟨S + 1, 0, none⟩), .pointer (some ⟨S + 1 + 1 + 1, 0, none⟩)] W
      (GrowPost S k g lb P J cur (pre ++ ldg k r used cur)) := by
  intro r
  induction r with
  | zero =>
    intro used cur pre W hc hcur _ hJ hL
    exact grow_end eg (by omega) hM used cur pre W (by omega) hcur hJ hL
  | succ r ih =>
    intro used cur pre W hc hcur hu hJ hL
    refine grow_more hk hI used r cur pre W hc hu hJ hL (fun x b pre W hx hbit hb hJ hL => ?_)
    subst hb
    exact ih _ _ pre W (by rw [List.length_append, List.length_singleton]; omega) (fun y hy => by
      rcases List.mem_append.1 hy with h | h
      · exact hcur y h
      · rw [List.mem_singleton] at h; omega) (Nat.or_lt_two_pow hu (Nat.pow_lt_pow_right (by omega) hx)) hJ hL
set_option maxHeartbeats 2000000 in
theorem leadings_calls (eg : ∀ args w, (callFunc g args).run Tryd.prog w = .ok (.enter g args) w) (hk : k ≤ 20) (hI : Inter S P J) (hM : MoreCalls S k g lb P J) (w : World) (hS : S = w.heap.size) (h0 : ∀ W, Below S w W → J [] W ∧ ∀ i, P W i → i < S) :
    Calls Tryd.prog 103 #[.int .i64 (k : Int), .func (.func g) #[] lb] w fun e w' => (∃ v, e = .returned v) ∧ J (ldg k k 0 []) w' := by
  have HC := Aside0.mk (grow_calls eg hk hI hM)
  have H0 := Aside0.mk h0
  have HS := Aside0.mk hS
  have hmf : ∀ (fn : Fn) (first cap : Array Value) (w : World), (Instr.makeFunc fn first cap).run Tryd.prog w = .ok (.func fn first cap) w := fun _ _ _ _ => rfl
  clear h0 hS hM hI hk
  go_enter Tryd.func103, Tryd.ntmps103
  go_wp2_with fail
  obtain ⟨W0, hW0⟩ : ∃ W0, (((w.alloc (.cells #[.int .i64 (k : Int)] 3)).alloc (.cells #[.func (.func g) #[] lb] 23)).alloc (.cells #[.slice none 0 0] 22)).alloc (.cells #[.func (.func 133) #[] #[.pointer (some ⟨w.heap.size + 1 + 1, 0, none⟩), .pointer (some ⟨w.heap.size, 0, none⟩), .pointer (some ⟨w.heap.size + 1, 0, none⟩), .pointer (some ⟨w.heap.size + 1 + 1 + 1, 0, none⟩)]] 76) = W0 := ⟨_, rfl⟩
  obtain ⟨c0, c1, c2, c3, f2, -, -, B0⟩ := four_new w _ _ _ _ _ _ _ _ S HS.out W0 hW0
  rw [hW0, ← HS.out]
  rw [← HS.out] at c3
  obtain ⟨hJ, hP⟩ := H0.out W0 B0
  have hrun := HC.out k 0 [] [] W0 (by simp) (by simp) (Nat.two_pow_pos k) hJ ⟨c0, c1, ⟨none, 0, c2, Kd.R_mono (Kd.R_nil _ _ _ _ (fun i => ¬ P W0 i)) (fun _ h => h)⟩, f2, c3⟩
  clear hW0 c0 c1 c2 c3 f2 B0 H0 HC hJ hP
  refine hrun.mono ?_
  rintro e w' ⟨rfl, hj, _⟩
  go_wp2
  go_end0
  exact ⟨⟨_, rfl⟩, hj⟩
end

end Go.Proofs.YtfpnojcbhbkfaaaDoor.P
namespace Go.Proofs.YtfpnojcbhbkfaaaDoor.P
open Go.RowKit Go.Proofs.YtfpnojcbhbkfaaaDoorW.PrintWords Go.Proofs.YtfpnojcbhbkfaaaDoorW.PrintLast Go.Proofs.YtfpnojcbhbkfaaaDoorW.PrintMore
attribute [local go_sem] max2_int min2_int max_two min_two max_three min_three max_four min_four   -- for this text's walks alone
set_option linter.unusedVariables false
set_option linter.unusedSimpArgs false

/-! ### voices_abs: function 148 -/
def voices_abs.f (a0 : Int) : Option (Int) := some (mx a0 (wrap64 (-a0)))
set_option maxHeartbeats 8000000 in
set_option maxRecDepth 100000 in
theorem voices_abs.calls (a0 : Int) (r : Int) (w : World) (h : voices_abs.f a0 = some r) :
    Calls Tryd.prog 148 #[.int .i64 a0] w fun e w' => e = .returned (.int .i64 r) ∧ Below w.heap.size w w' := by
  have HB := Aside0.mk (Below.refl w.heap.size w)
  have H : (some (mx a0 (wrap64 (-a0)))) = some r := h
  clear h
  obtain ⟨ji2, hji2⟩ : ∃ j_ : Int, (mx a0 (wrap64 (-a0))) = j_ := ⟨_, rfl⟩
  replace H : (some ji2) = some r := by first | (rw [hji2] at H; exact H) | (simp only [hji2] at H ⊢; exact H)
  have hji2_ : (if a0 < (wrap64 (-a0)) then (wrap64 (-a0)) else a0) = ji2 := hji2
  obtain rfl := Option.some.inj H
  go_enter Tryd.func148, Tryd.ntmps148
  go_wp2
  go_ret
  exact ⟨by first | rfl | (simp [errW_none, errW_some] <;> rfl) | (simp only [← hji2]; first | rfl | (simp [errW_none, errW_some] <;> rfl)) | (simp [*, errW_none, errW_some] <;> rfl), by repeat (first | (with_reducible first | exact HB.out | apply below_alloc | apply pw_below_drewN | apply below_drew1) | exact HB.out)⟩

end Go.Proofs.YtfpnojcbhbkfaaaDoor.P
namespace Go.Proofs.YtfpnojcbhbkfaaaDoor.P
open Go.RowKit Go.Proofs.YtfpnojcbhbkfaaaDoorW.PrintWords Go.Proofs.YtfpnojcbhbkfaaaDoorW.PrintLast Go.Proofs.YtfpnojcbhbkfaaaDoorW.PrintMore
attribute [local go_sem] max2_int min2_int max_two min_two max_three min_three max_four min_four   -- for this text's walks alone
set_option linter.unusedVariables false
set_option linter.unusedSimpArgs false

/-! ### voices_circle_mod: function 77 -/
def voices_circle_mod.f (a0 : Int) (a1 : Int) : Option (Int) := if a0 = 0 then (none) else (some (Int.tmod (wrap64 ((Int.tmod a1 a0) + a0)) a0))
set_option maxHeartbeats 8000000 in
set_option maxRecDepth 100000 in
theorem voices_circle_mod.calls (a0 : Int) (a1 : Int) (r : Int) (w : World) (h : voices_circle_mod.f a0 a1 = some r) :
    Calls Tryd.prog 77 #[.int .i64 a0, .int .i64 a1] w fun e w' => e = .returned (.int .i64 r) ∧ Drawn0 w w' := by
  have H : (if a0 = 0 then (none) else (some (Int.tmod (wrap64 ((Int.tmod a1 a0) + a0)) a0))) = some r := h
  clear h
  by_cases c3 : a0 = 0
  · rw [if_pos c3] at H
    exact absurd H (by simp)
  · rw [if_neg c3] at H
    have c3b0 : (a0 == 0) = false := beq_eq_false_iff_ne.mpr c3
    have c3b1 : (a0 != 0) = true := bne_iff_ne.mpr c3
    obtain rfl := Option.some.inj H
    go_enter Tryd.func77, Tryd.ntmps77
    go_wp2
    go_ret
    exact ⟨by first | rfl | (simp; done) | (simp [*]; done), by repeat (first | exact Drawn0.refl _ | apply Drawn0.step)⟩

end Go.Proofs.YtfpnojcbhbkfaaaDoor.P
namespace Go.Proofs.YtfpnojcbhbkfaaaDoor.P
open Go.RowKit Go.Proofs.YtfpnojcbhbkfaaaDoorW.PrintWords Go.Proofs.YtfpnojcbhbkfaaaDoorW.PrintLast Go.Proofs.YtfpnojcbhbkfaaaDoorW.PrintMore
attribute [local go_sem] max2_int min2_int max_two min_two max_three min_three max_four min_four   -- for this text's walks alone
set_option linter.unusedVariables false
set_option linter.unusedSimpArgs false

/-! ### voices_circle_movement: function 149 -/
def voices_circle_movement.f (a0 : Int) (a1 : Int) (a2 : Int) : Option (Int) := (voices_circle_mod.f a0 (wrap64 (a2 - a1))).bind fun t1001 => (if (wrap64 (2 * t1001)) > a0 then (some (wrap64 (t1001 - a0))) else (some t1001))
set_option maxHeartbeats 8000000 in
set_option maxRecDepth 100000 in
theorem voices_circle_movement.calls (a0 : Int) (a1 : Int) (a2 : Int) (r : Int) (w : World) (h : voices_circle_movement.f a0 a1 a2 = some r) :
    Calls Tryd.prog 149 #[.int .i64 a0, .int .i64 a1, .int .i64 a2] w fun e w' => e = .returned (.int .i64 r) ∧ Drawn0 w w' := by
  have H : ((voices_circle_mod.f a0 (wrap64 (a2 - a1))).bind fun t1001 => (if (wrap64 (2 * t1001)) > a0 then (some (wrap64 (t1001 - a0))) else (some t1001))) = some r := h
  clear h
  replace H := Option.bind_eq_some_iff.mp H
  obtain ⟨t1001, A40, H⟩ := H
  replace H : (if (wrap64 (2 * t1001)) > a0 then (some (wrap64 (t1001 - a0))) else (some t1001)) = some r := H
  have A4 := Aside0.mk A40
  clear A40
  by_cases c5 : (wrap64 (2 * t1001)) > a0
  · rw [if_pos c5] at H
    have c5b0 : decide (a0 < (wrap64 (2 * t1001))) = true := decide_eq_true c5
    clear c5
    obtain rfl := Option.some.inj H
    go_enter Tryd.func149, Tryd.ntmps149
    go_wp2_with (first | ((with_reducible refine gate_callee (f := 77) rfl ?_); refine goesL_ (some 12) rfl rfl Tryd.func77 (by kernel_rfl) rfl #[.int .i64 a0, .int .i64 (wrap64 (a2 - a1))] rfl (by (try simp only [List.map_toArray, List.map_cons, List.map_nil]); first | done | rfl | (simp only [List.length_drop, List.length_take]; rfl)) ?_; (with_reducible refine (voices_circle_mod.calls a0 (wrap64 (a2 - a1)) t1001 _ A4.out).mono ?_); rintro e w' ⟨rfl, ⟨nd, rfl⟩⟩; refine ⟨_, rfl, ?_⟩))
    go_ret
    exact ⟨by first | rfl | (simp; done) | (simp [*]; done), by repeat (first | exact Drawn0.refl _ | apply Drawn0.step)⟩
  · rw [if_neg c5] at H
    have c5b0 : decide (a0 < (wrap64 (2 * t1001))) = false := decide_eq_false c5
    clear c5
    obtain rfl := Option.some.inj H
    go_enter Tryd.func149, Tryd.ntmps149
    go_wp2_with (first | ((with_reducible refine gate_callee (f := 77) rfl ?_); refine goesL_ (some 12) rfl rfl Tryd.func77 (by kernel_rfl) rfl #[.int .i64 a0, .int .i64 (wrap64 (a2 - a1))] rfl (by (try simp only [List.map_toArray, List.map_cons, List.map_nil]); first | done | rfl | (simp only [List.length_drop, List.length_take]; rfl)) ?_; (with_reducible refine (voices_circle_mod.calls a0 (wrap64 (a2 - a1)) t1001 _ A4.out).mono ?_); rintro e w' ⟨rfl, ⟨nd, rfl⟩⟩; refine ⟨_, rfl, ?_⟩))
    go_ret
    exact ⟨by first | rfl | (simp; done) | (simp [*]; done), by repeat (first | exact Drawn0.refl _ | apply Drawn0.step)⟩

end Go.Proofs.YtfpnojcbhbkfaaaDoor.P
namespace Go.Proofs.YtfpnojcbhbkfaaaDoor.P
open Go.RowKit Go.Proofs.YtfpnojcbhbkfaaaDoorW.PrintWords Go.Proofs.YtfpnojcbhbkfaaaDoorW.PrintLast Go.Proofs.YtfpnojcbhbkfaaaDoorW.PrintMore
attribute [local go_sem] max2_int min2_int max_two min_two max_three min_three max_four min_four   -- for this text's walks alone
set_option linter.unusedVariables false
set_option linter.unusedSimpArgs false

/-! ### voices_circle_distance: function 134 -/
def voices_circle_distance.f (a0 : Int) (a1 : Int) (a2 : Int) : Option (Int) := (voices_circle_movement.f a0 a1 a2).bind fun t1001 => ((voices_abs.f t1001).bind fun t1002 => (some t1002))
set_option maxHeartbeats 8000000 in
set_option maxRecDepth 100000 in
theorem voices_circle_distance.calls (a0 : Int) (a1 : Int) (a2 : Int) (r : Int) (w : World) (h : voices_circle_distance.f a0 a1 a2 = some r) :
    Calls Tryd.prog 134 #[.int .i64 a0, .int .i64 a1, .int .i64 a2] w fun e w' => e = .returned (.int .i64 r) ∧ Below w.heap.size w w' := by
  have HB := Aside0.mk (Below.refl w.heap.size w)
  have H : ((voices_circle_movement.f a0 a1 a2).bind fun t1001 => ((voices_abs.f t1001).bind fun t1002 => (some t1002))) = some r := h
  clear h
  replace H := Option.bind_eq_some_iff.mp H
  obtain ⟨t1001, A40, H⟩ := H
  replace H : ((voices_abs.f t1001).bind fun t1002 => (some t1002)) = some r := H
  have A4 := Aside0.mk A40
  clear A40
  replace H := Option.bind_eq_some_iff.mp H
  obtain ⟨t1002, A50, H⟩ := H
  replace H : (some t1002) = some r := H
  have A5 := Aside0.mk A50
  clear A50
  obtain rfl := Option.some.inj H
  go_enter Tryd.func134, Tryd.ntmps134
  go_wp2_with (first | ((with_reducible refine gate_callee (f := 149) rfl ?_); refine goesL_ (some 10) rfl rfl Tryd.func149 (by kernel_rfl) rfl #[.int .i64 a0, .int .i64 a1, .int .i64 a2] rfl (by (try simp only [List.map_toArray, List.map_cons, List.map_nil]); first | done | rfl | (simp only [List.length_drop, List.length_take]; rfl)) ?_; (with_reducible refine (voices_circle_movement.calls a0 a1 a2 t1001 _ A4.out).mono ?_); rintro e w' ⟨rfl, ⟨nd, rfl⟩⟩; refine ⟨_, rfl, ?_⟩) | ((with_reducible refine gate_callee (f := 148) rfl ?_); refine goesL_ (some 11) rfl rfl Tryd.func148 (by kernel_rfl) rfl #[.int .i64 t1001] rfl (by (try simp only [List.map_toArray, List.map_cons, List.map_nil]); first | done | rfl | (simp only [List.length_drop, List.length_take]; rfl)) ?_; (with_reducible refine (voices_abs.calls t1001 t1002 _ A5.out).mono ?_); rintro e w6 ⟨rfl, hb⟩; refine ⟨_, rfl, ?_⟩; have n0_ := Aside0.mk (below_step (by repeat (first | (with_reducible first | exact HB.out | apply below_alloc | apply pw_below_drewN | apply below_drew1) | exact HB.out)) hb); clear HB; have HB := n0_; clear n0_; (try clear hb); (try clear hb2); (try clear hk); (try clear hi)))
  go_ret
  exact ⟨by first | rfl | (simp [errW_none, errW_some] <;> rfl) | (simp [*, errW_none, errW_some] <;> rfl), by repeat (first | (with_reducible first | exact HB.out | apply below_alloc | apply pw_below_drewN | apply below_drew1) | exact HB.out)⟩

end Go.Proofs.YtfpnojcbhbkfaaaDoor.P
namespace Go.Proofs.YtfpnojcbhbkfaaaDoor.P
open Go.RowKit Go.Proofs.YtfpnojcbhbkfaaaDoorW.PrintWords Go.Proofs.YtfpnojcbhbkfaaaDoorW.PrintLast Go.Proofs.YtfpnojcbhbkfaaaDoorW.PrintMore
attribute [local go_sem] max2_int min2_int max_two min_two max_three min_three max_four min_four   -- for this text's walks alone
set_option linter.unusedVariables false
set_option linter.unusedSimpArgs false

/-! ### voices_circle_price: function 105 -/
def voices_circle_price.l0 : Nat → Int → List Int → List Int → Int → List Int → Int → Int → Option (Int)
  | 0, _, _, _, _, _, _, _ => none
  | k + 1, x0, x1, x2, x9, x12, x13, x14 => if x14 < x13 then (if 0 ≤ x14 then (if x14 < (x12.length : Int) then (if x14 < (x1.length : Int) then (if 0 ≤ (rd x12 x14) then (if (rd x12 x14) < (x2.length : Int) then ((voices_circle_distance.f x0 (rd x1 x14) (rd x2 (rd x12 x14))).bind fun t1004 => (voices_circle_price.l0 k x0 x1 x2 (wrap64 (x9 + t1004)) x12 x13 (wrap64 (x14 + 1)))) else (none)) else (none)) else (none)) else (none)) else (none)) else (some x9)
def voices_circle_price.f (k : Nat) (a0 : Int) (l1 : List Int) (l2 : List Int) (l3 : List Int) : Option (Int) := voices_circle_price.l0 k a0 l1 l2 0 l3 (l3.length : Int) 0
theorem voices_circle_price.mono_l : ∀ k, (∀ y0 y1 y2 y3 y4 y5 y6, LeO (voices_circle_price.l0 k y0 y1 y2 y3 y4 y5 y6) (voices_circle_price.l0 (k + 1) y0 y1 y2 y3 y4 y5 y6))
  | 0 => fun _ _ _ _ _ _ _ r h => by simp [voices_circle_price.l0] at h
  | k + 1 => by
    have ih0 := voices_circle_price.mono_l k
    · intro y0 y1 y2 y3 y4 y5 y6
      unfold voices_circle_price.l0
      repeat' first
      | (with_reducible exact ih0 _ _ _ _ _ _ _)
      | (with_reducible exact LeO.refl _)
      | (with_reducible exact LeO.none _)
      | (with_reducible refine LeO.ite ?_ ?_)
      | (with_reducible refine LeO.bind ?_ (fun _ => ?_))
      | exact ih0 _ _ _ _ _ _ _
      | exact LeO.none _
      | refine LeO.ite ?_ ?_
      | refine LeO.bind ?_ (fun _ => ?_)
theorem voices_circle_price.mono : ∀ a0 a1 a2 a3 k, LeO (voices_circle_price.f k a0 a1 a2 a3) (voices_circle_price.f (k + 1) a0 a1 a2 a3) := by
  intro a0 a1 a2 a3 k
  have ih0 := voices_circle_price.mono_l k
  unfold voices_circle_price.f
  repeat' first
      | (with_reducible exact ih0 _ _ _ _ _ _ _)
      | (with_reducible exact LeO.refl _)
      | (with_reducible exact LeO.none _)
      | (with_reducible refine LeO.ite ?_ ?_)
      | (with_reducible refine LeO.bind ?_ (fun _ => ?_))
      | exact ih0 _ _ _ _ _ _ _
      | exact LeO.none _
      | refine LeO.ite ?_ ?_
      | refine LeO.bind ?_ (fun _ => ?_)
def voices_circle_price.T5 : Bool × List (List Nat × List Nat) := (true, [([], []), ([], []), ([], []), ([], []), ([2, 3], [2, 3]), ([4], [4]), ([], []), ([], []), ([6, 7], [6, 7]), ([8], [8]), ([1, 5, 9], [1, 5, 9]), ([0, 10], [0, 10]), ([11, 10, 0, 1, 2, 3, 4, 5, 6, 7, 8, 9, 10, 11], [0, 11])])
def voices_circle_price.B5 : List Nat := [0, 0, 0, 0, 12, 28, 0, 0, 192, 448, 1022, 2047, 4095]
theorem voices_circle_price.tab5 : rtab .any (opsOf Tryd.f105 5) = voices_circle_price.T5 := by kernel_rfl
theorem voices_circle_price.bits5 : waitsOk voices_circle_price.T5.2 voices_circle_price.B5 = true := by kernel_rfl
set_option maxHeartbeats 8000000 in
set_option maxRecDepth 100000 in
theorem voices_circle_price.calls (k : Nat) (a0 : Int) (A1 : Option Addr) (c1 : Nat) (l1 : List Int) (A2 : Option Addr) (c2 : Nat) (l2 : List Int) (A3 : Option Addr) (c3 : Nat) (l3 : List Int) (r : Int) (w : World) (hr1 : Kd.C (Kd.int .i64) w A1 l1.length l1) (hc1 : l1.length ≤ c1) (hr2 : Kd.C (Kd.int .i64) w A2 l2.length l2) (hc2 : l2.length ≤ c2) (hr3 : Kd.C (Kd.int .i64) w A3 l3.length l3) (hc3 : l3.length ≤ c3) (h : voices_circle_price.f k a0 l1 l2 l3 = some r) :
    Calls Tryd.prog 105 #[.int .i64 a0, .slice A1 l1.length c1, .slice A2 l2.length c2, .slice A3 l3.length c3] w fun e w' => e = .returned (.int .i64 r) ∧ Below w.heap.size w w' := by
  have HR1 := Aside0.mk hr1
  have HC1 := Aside0.mk hc1
  clear hr1 hc1
  have HR2 := Aside0.mk hr2
  have HC2 := Aside0.mk hc2
  clear hr2 hc2
  have HR3 := Aside0.mk hr3
  have HC3 := Aside0.mk hc3
  clear hr3 hc3
  have HB := Aside0.mk (Below.refl w.heap.size w)
  have H : (voices_circle_price.l0 k a0 l1 l2 0 l3 (l3.length : Int) 0) = some r := h
  clear h
  have H' := Aside0.mk H
  clear H
  go_enter Tryd.func105, Tryd.ntmps105
  go_wp2
  go_loopg [9, 14] k (fun kq v9 v14 w' => ∃ (x9_1 : Int) (x14_1 : Int), v9 = .int .i64 x9_1 ∧ v14 = .int .i64 x14_1 ∧ Aside0 (voices_circle_price.l0 kq a0 l1 l2 x9_1 l3 (l3.length : Int) x14_1 = some r) ∧ Aside0 (kq ≤ k) ∧ Aside0 (Below w.heap.size w w'))
  case atStart => exact ⟨(0), (0), (by first | rfl | (simp; done) | (simp [*]; done)), (by first | rfl | (simp; done) | (simp [*]; done)), H', ⟨Nat.le_refl _⟩, ⟨by repeat (first | (with_reducible first | exact HB.out | apply below_alloc | apply pw_below_drewN | apply below_drew1) | exact HB.out)⟩⟩
  case round =>
    clear H'
    try clear c1
    try clear c2
    try clear p2
    try clear c3
    obtain ⟨x9_1, x14_1, rfl, rfl, HA, HK1, HB⟩ := hrel
    cases gk with
    | zero => exact absurd HA.out (by simp [voices_circle_price.l0])
    | succ k1 =>
      have H := HA.out
      clear HA
      simp only [voices_circle_price.l0] at H
      by_cases c5 : x14_1 < (l3.length : Int)
      · rw [if_pos c5] at H
        have c5b0 : decide (x14_1 < (l3.length : Int)) = true := decide_eq_true c5
        clear c5
        by_cases c6 : 0 ≤ x14_1
        · rw [if_pos c6] at H
          have c6b0 : decide (0 ≤ x14_1) = true := decide_eq_true c6
          clear c6
          by_cases c7 : x14_1 < (l3.length : Int)
          · rw [if_pos c7] at H
            have c7b0 : decide (x14_1 < (l3.length : Int)) = true := decide_eq_true c7
            clear c7
            by_cases c8 : x14_1 < (l1.length : Int)
            · rw [if_pos c8] at H
              have c8b0 : decide (x14_1 < (l1.length : Int)) = true := decide_eq_true c8
              clear c8
              by_cases c9 : 0 ≤ (rd l3 x14_1)
              · rw [if_pos c9] at H
                have c9b0 : decide (0 ≤ (rd l3 x14_1)) = true := decide_eq_true c9
                clear c9
                by_cases c10 : (rd l3 x14_1) < (l2.length : Int)
                · rw [if_pos c10] at H
                  have c10b0 : decide ((rd l3 x14_1) < (l2.length : Int)) = true := decide_eq_true c10
                  clear c10
                  replace H := Option.bind_eq_some_iff.mp H
                  obtain ⟨t1004, A110, H⟩ := H
                  replace H : (voices_circle_price.l0 k1 a0 l1 l2 (wrap64 (x9_1 + t1004)) l3 (l3.length : Int) (wrap64 (x14_1 + 1))) = some r := H
                  have A11 := Aside0.mk A110
                  clear A110
                  have H' := Aside0.mk H
                  clear H
                  have p1001 : 0 ≤ (x14_1 : Int) := of_decide_eq_true (by first | (with_reducible assumption) | assumption)
                  have q1001 : x14_1 < (l3.length : Int) := of_decide_eq_true (by first | (with_reducible assumption) | assumption)
                  obtain ⟨ad1001, e1001, hx1001_0⟩ := Kd.at_int HR3.out x14_1 p1001 q1001
                  cases e1001
                  replace hx1001_0 := (HB.out.cell (World.block_lt_of_cell? w _ hx1001_0)).trans hx1001_0
                  replace p1001 := eq_true p1001
                  replace q1001 := eq_true q1001
                  try go_wp2
                  have n0_ := Aside0.mk (below_drew1 HB.out)
                  clear HB
                  have HB := n0_
                  clear n0_
                  have p1002 : 0 ≤ (x14_1 : Int) := of_decide_eq_true (by first | (with_reducible assumption) | assumption)
                  have q1002 : x14_1 < (l1.length : Int) := of_decide_eq_true (by first | (with_reducible assumption) | assumption)
                  obtain ⟨ad1002, e1002, hx1002_0⟩ := Kd.at_int HR1.out x14_1 p1002 q1002
                  have hw1002_0 := hx1002_0
                  cases e1002
                  replace hx1002_0 := (HB.out.cell (World.block_lt_of_cell? w _ hx1002_0)).trans hx1002_0
                  replace p1002 := eq_true p1002
                  replace q1002 := eq_true q1002
                  have p1003 : 0 ≤ ((rd l3 x14_1) : Int) := of_decide_eq_true (by first | (with_reducible assumption) | assumption)
                  have q1003 : (rd l3 x14_1) < (l2.length : Int) := of_decide_eq_true (by first | (with_reducible assumption) | assumption)
                  obtain ⟨ad1003, e1003, hx1003_0⟩ := Kd.at_int HR2.out (rd l3 x14_1) p1003 q1003
                  have hw1003_0 := hx1003_0
                  cases e1003
                  replace hx1003_0 := (HB.out.cell (World.block_lt_of_cell? w _ hx1003_0)).trans hx1003_0
                  replace p1003 := eq_true p1003
                  replace q1003 := eq_true q1003
                  refine start_ (n := 13) (S := fun w' => w'.cell? (ad1002.add (x14_1).toNat) = some (.int .i64 (rd l1 x14_1)) ∧ w'.cell? (ad1003.add ((rd l3 x14_1)).toNat) = some (.int .i64 (rd l2 (rd l3 x14_1)))) (ds := []) #[false, false, false, false, false, false, false, false, false, false, false, false, false] (by kernel_rfl) rfl rfl ⟨((HB.out.cell (World.block_lt_of_cell? w _ hw1002_0)).trans hw1002_0), ((HB.out.cell (World.block_lt_of_cell? w _ hw1003_0)).trans hw1003_0)⟩ (fun hHeld => ?_); refine with_tabW voices_circle_price.tab5 voices_circle_price.bits5 (fun HT_ HW_ => ?_)
                  generalize wr.drew = w12 at HB hx1002_0 hx1003_0 hHeld ⊢
                  refine pure_ (i := 0) (N := some 19) (v := ?_) (a' := ?_) #[true, false, false, false, false, false, false, false, false, false, false, false, false] rfl rfl (any_of HT_.out (by kernel_rfl)) (fun _ _ _ h => h) (Or.inl ⟨by rfl, ?_⟩) ?_ ?_
                  rotate_left
                  · intro w'
                    go_simp
                    with_reducible rfl
                  rotate_left
                  · simp only [Act.put, List.setIfInBounds_toArray, List.set_cons_zero, List.set_cons_succ, i64_w, i32_w]
                    rfl
                  refine pure_ (i := 1) (N := some 20) (v := ?_) (a' := ?_) #[true, true, false, false, false, false, false, false, false, false, false, false, false] rfl rfl (any_of HT_.out (by kernel_rfl)) (fun _ _ _ h => h) (Or.inl ⟨by rfl, ?_⟩) ?_ ?_
                  rotate_left
                  · intro w'
                    go_simp
                    with_reducible rfl
                  rotate_left
                  · simp only [Act.put, List.setIfInBounds_toArray, List.set_cons_zero, List.set_cons_succ, i64_w, i32_w]
                    rfl
                  refine pure_ (i := 2) (N := some 21) (v := ?_) (a' := ?_) #[true, true, true, false, false, false, false, false, false, false, false, false, false] rfl rfl (any_of HT_.out (by kernel_rfl)) (fun _ _ _ h => h) (Or.inl ⟨by rfl, ?_⟩) ?_ ?_
                  rotate_left
                  · intro w'
                    go_simp
                    with_reducible rfl
                  rotate_left
                  · simp only [Act.put, List.setIfInBounds_toArray, List.set_cons_zero, List.set_cons_succ, i64_w, i32_w]
                    rfl
                  refine pure_ (i := 3) (N := some 22) (v := ?_) (a' := ?_) #[true, true, true, true, false, false, false, false, false, false, false, false, false] rfl rfl (any_of HT_.out (by kernel_rfl)) (fun _ _ _ h => h) (Or.inl ⟨by rfl, ?_⟩) ?_ ?_
                  rotate_left
                  · intro w'
                    go_simp
                    with_reducible rfl
                  rotate_left
                  · simp only [Act.put, List.setIfInBounds_toArray, List.set_cons_zero, List.set_cons_succ, i64_w, i32_w]
                    rfl
                  refine pure_ (i := 4) (N := some 23) (v := ?_) (a' := ?_) #[true, true, true, true, true, false, false, false, false, false, false, false, false] rfl rfl (any_of HT_.out (by kernel_rfl)) (fun _ _ _ h => h) (Or.inl ⟨by rfl, ?_⟩) ?_ ?_
                  rotate_left
                  · intro w'
                    go_simp
                    with_reducible rfl
                  rotate_left
                  · simp only [Act.put, List.setIfInBounds_toArray, List.set_cons_zero, List.set_cons_succ, i64_w, i32_w]
                    rfl
                  refine pure_ (i := 6) (N := some 25) (v := ?_) (a' := ?_) #[true, true, true, true, true, false, true, false, false, false, false, false, false] rfl rfl (any_of HT_.out (by kernel_rfl)) (fun _ _ _ h => h) (Or.inl ⟨by rfl, ?_⟩) ?_ ?_
                  rotate_left
                  · intro w'
                    go_simp
                    with_reducible rfl
                  rotate_left
                  · simp only [Act.put, List.setIfInBounds_toArray, List.set_cons_zero, List.set_cons_succ, i64_w, i32_w]
                    rfl
                  refine pure_ (i := 7) (N := some 26) (v := ?_) (a' := ?_) #[true, true, true, true, true, false, true, true, false, false, false, false, false] rfl rfl (any_of HT_.out (by kernel_rfl)) (fun _ _ _ h => h) (Or.inl ⟨by rfl, ?_⟩) ?_ ?_
                  rotate_left
                  · intro w'
                    go_simp
                    with_reducible rfl
                  rotate_left
                  · simp only [Act.put, List.setIfInBounds_toArray, List.set_cons_zero, List.set_cons_succ, i64_w, i32_w]
                    rfl
                  refine pure_ (i := 8) (N := some 27) (v := ?_) (a' := ?_) #[true, true, true, true, true, false, true, true, true, false, false, false, false] rfl rfl (any_of HT_.out (by kernel_rfl)) (fun _ _ _ h => h) (Or.inl ⟨by rfl, ?_⟩) ?_ ?_
                  rotate_left
                  · intro w'
                    go_simp
                    with_reducible rfl
                  rotate_left
                  · simp only [Act.put, List.setIfInBounds_toArray, List.set_cons_zero, List.set_cons_succ, i64_w, i32_w]
                    rfl
                  refine take_ (i := 5) (N := some 24) (v := ?_) (a' := ?_) #[true, true, true, true, true, true, true, true, true, false, false, false, false] rfl rfl (take_ofW HT_.out HW_.out (by kernel_rfl)) (fun _ _ _ h => h) (Or.inl ⟨by rfl, ?_⟩) hHeld ?_ ?_
                  rotate_left
                  · rintro w' ⟨s0, s1⟩
                    go_simp
                    with_reducible rfl
                  rotate_left
                  · simp only [Act.put, List.setIfInBounds_toArray, List.set_cons_zero, List.set_cons_succ, i64_w, i32_w]
                    rfl
                  refine take_ (i := 9) (N := some 28) (v := ?_) (a' := ?_) #[true, true, true, true, true, true, true, true, true, true, false, false, false] rfl rfl (take_ofW HT_.out HW_.out (by kernel_rfl)) (fun _ _ _ h => h) (Or.inl ⟨by rfl, ?_⟩) hHeld ?_ ?_
                  rotate_left
                  · rintro w' ⟨s0, s1⟩
                    go_simp
                    with_reducible rfl
                  rotate_left
                  · simp only [Act.put, List.setIfInBounds_toArray, List.set_cons_zero, List.set_cons_succ, i64_w, i32_w]
                    rfl
                  refine one_ (i := 10) (N := some 29) #[true, true, true, true, true, true, true, true, true, true, true, false, false] rfl rfl (one_of HT_.out (by kernel_rfl)) (by decide) (fun K hK => ?_)
                  refine goes_ Tryd.func134 (by kernel_rfl) rfl #[.int .i64 a0, .int .i64 (rd l1 x14_1), .int .i64 (rd l2 (rd l3 x14_1))] (by rfl) rfl rfl (by (try simp only [List.map_toArray, List.map_cons, List.map_nil]); first | done | rfl | (simp only [List.length_drop, List.length_take]; rfl)) ?_
                  with_reducible refine (voices_circle_distance.calls a0 (rd l1 x14_1) (rd l2 (rd l3 x14_1)) t1004 _ A11.out).mono ?_
                  rintro e w13 ⟨rfl, hb⟩
                  refine ⟨_, rfl, ?_⟩
                  have n0_ := Aside0.mk (below_step (by repeat (first | (with_reducible first | exact HB.out | apply below_alloc | apply pw_below_drewN | apply below_drew1) | exact HB.out)) hb)
                  clear HB
                  have HB := n0_
                  clear n0_
                  (try clear hb)
                  (try clear hb2)
                  (try clear hk)
                  (try clear hi)
                  refine hK.out _ _ ⟨((HB.out.cell (World.block_lt_of_cell? w _ hw1002_0)).trans hw1002_0), ((HB.out.cell (World.block_lt_of_cell? w _ hw1003_0)).trans hw1003_0)⟩ (fun hHeld => ?_)
                  clear hK K
                  refine norm_ (a' := ?_) ?_ ?_
                  rotate_left
                  · show Act.put _ (some 29) _ = _
                    simp only [Act.put, List.setIfInBounds_toArray, List.set_cons_zero, List.set_cons_succ, i64_w, i32_w]
                    rfl
                  refine pure_ (i := 11) (N := some 30) (v := ?_) (a' := ?_) #[true, true, true, true, true, true, true, true, true, true, true, true, false] rfl rfl (any_of HT_.out (by kernel_rfl)) (fun _ _ _ h => h) (Or.inl ⟨by rfl, ?_⟩) ?_ ?_
                  rotate_left
                  · intro w'
                    go_simp
                    with_reducible rfl
                  rotate_left
                  · simp only [Act.put, List.setIfInBounds_toArray, List.set_cons_zero, List.set_cons_succ, i64_w, i32_w]
                    rfl
                  refine pure_ (i := 12) (N := some 9) (v := ?_) (a' := ?_) #[true, true, true, true, true, true, true, true, true, true, true, true, true] rfl rfl (any_of HT_.out (by kernel_rfl)) (fun _ _ _ h => h) (Or.inl ⟨by rfl, ?_⟩) ?_ ?_
                  rotate_left
                  · intro w'
                    go_simp
                    with_reducible rfl
                  rotate_left
                  · simp only [Act.put, List.setIfInBounds_toArray, List.set_cons_zero, List.set_cons_succ, i64_w, i32_w]
                    rfl
                  refine done_ (done_of HT_.out (by kernel_rfl)) ?_
                  try go_wp2
                  go_roundg k1
                  case measure => have := HK1.out; omega
                  case rel => exact ⟨(wrap64 (x9_1 + t1004)), (wrap64 (x14_1 + 1)), (by first | rfl | (simp; done) | (simp [*]; done)), (by first | rfl | (simp; done) | (simp [*]; done)), H', ⟨by have := HK1.out; omega⟩, ⟨by repeat (first | (with_reducible first | exact HB.out | apply below_alloc | apply pw_below_drewN | apply below_drew1) | exact HB.out)⟩⟩
                · rw [if_neg c10] at H
                  exact absurd H (by simp)
              · rw [if_neg c9] at H
                exact absurd H (by simp)
            · rw [if_neg c8] at H
              exact absurd H (by simp)
          · rw [if_neg c7] at H
            exact absurd H (by simp)
        · rw [if_neg c6] at H
          exact absurd H (by simp)
      · rw [if_neg c5] at H
        have c5b0 : decide (x14_1 < (l3.length : Int)) = false := decide_eq_false c5
        clear c5
        obtain rfl := Option.some.inj H
        go_wp2
        go_ret
        exact ⟨by first | rfl | (simp [errW_none, errW_some] <;> rfl) | (simp [*, errW_none, errW_some] <;> rfl), by repeat (first | (with_reducible first | exact HB.out | apply below_alloc | apply pw_below_drewN | apply below_drew1) | exact HB.out)⟩

end Go.Proofs.YtfpnojcbhbkfaaaDoor.P
