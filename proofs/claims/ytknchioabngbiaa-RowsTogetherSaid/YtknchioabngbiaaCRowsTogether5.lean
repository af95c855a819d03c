/- A part of a proof that a law's Go function returns true for every input, laid by this session's program mp.py (which drives the kit's print). Conditions: as each theorem states them. -/
import Derived.Shelf.Abstract
import Derived.Shelf.RegionOpen
import Derived.Shelf.AbstractIn
import Derived.Sort.QuietIn
import Derived.OwnWalkIn
import Derived.TacticsInMore
import Derived.LoopNIn
import Derived.LoopIn
import Derived.Sort.QuietThIn
import Derived.Sort.QuietTacIn
import Derived.RangeFuncCalls
import Derived.Test.YtknchioabngbiaaCRowsTogether1
import Derived.Test.YtknchioabngbiaaCRowsTogether2
import Derived.Test.YtknchioabngbiaaCRowsTogether4
namespace Go.Proofs.Ytknchioabngbiaa.P
open Go.RowKit Go.Proofs.YtknchioabngbiaaW.PrintWords Go.Proofs.YtknchioabngbiaaW.PrintLast Go.Proofs.YtknchioabngbiaaW.PrintMore
attribute [local go_sem] max2_int min2_int max_two min_two max_three min_three max_four min_four   -- for this text's walks alone
set_option linter.unusedVariables false
set_option linter.unusedSimpArgs false

attribute [local go_sem] Oper.semAt_some
/-! rows.Way -/
theorem results_arr_int {fn : Func} {p q : Tmp} (h : fn.results = #[.cell p 46, .cell q 22]) (tmps : Array Value) (w : World) (b1 b2 : Nat) (x y z : Int)
    (hp : tmps.getD p undef = .pointer (some ⟨b1, 0, none⟩)) (hq : tmps.getD q undef = .pointer (some ⟨b2, 0, none⟩))
    (c0 : w.cell? ⟨b1, 0, none⟩ = some (.int .i64 x)) (c1 : w.cell? ⟨b1, 1, none⟩ = some (.int .i64 y)) (c2 : w.cell? ⟨b2, 0, none⟩ = some (.int .i64 z)) :
    (results fn tmps).run Try.prog w = .ok (.tuple #[.agg #[.int .i64 x, .int .i64 y], .int .i64 z]) w := by
  have hp' : tmps[p]?.getD undef = .pointer (some ⟨b1, 0, none⟩) := by simpa using hp
  have hq' : tmps[q]?.getD undef = .pointer (some ⟨b2, 0, none⟩) := by simpa using hq
  unfold results
  simp only [h]
  go_simp
/-- a box of one or two cells that may be written -/
structure BoxAt (W : World) (b : Nat) (cs : List Value) : Prop where
  cell : ∀ i v, cs[i]? = some v → W.cell? ⟨b, i, none⟩ = some v
  frozen : ∀ i, W.frozen? ⟨b, i, none⟩ = false
theorem BoxAt.new (w : World) (cs : List Value) (t : TypeId) : BoxAt (w.alloc (.cells cs.toArray t)) w.heap.size cs := by
  have h := World.alloc_heap_new w (.cells cs.toArray t)
  exact ⟨fun i v hv => by unfold World.cell?; simp only [h]; simpa using hv, fun i => by unfold World.frozen?; simp only [h]; simp⟩
theorem BoxAt.heap {W W' : World} {b : Nat} {cs : List Value} (h : BoxAt W b cs) (hh : W'.heap[b]? = W.heap[b]?) : BoxAt W' b cs :=
  ⟨fun i v hv => by have := h.cell i v hv; unfold World.cell? at this ⊢; simp only [hh]; exact this, fun i => by have := h.frozen i; unfold World.frozen? at this ⊢; simp only [hh]; exact this⟩
theorem BoxAt.lt {W : World} {b : Nat} {v : Value} {cs : List Value} (h : BoxAt W b (v :: cs)) : b < W.heap.size := World.block_lt_of_cell? W _ (h.cell 0 v rfl)
theorem BoxAt.alloc {W : World} {b : Nat} {v : Value} {cs : List Value} (h : BoxAt W b (v :: cs)) (o : Obj) : BoxAt (W.alloc o) b (v :: cs) := h.heap (Below.heap_alloc _ _ _ h.lt)
theorem BoxAt.drewN {W : World} {b : Nat} {cs : List Value} (h : BoxAt W b cs) (q : Nat) : BoxAt (W.drewN q) b cs := ⟨h.cell, h.frozen⟩
theorem BoxAt.grown {W W' : World} {b : Nat} {v : Value} {cs : List Value} (h : BoxAt W b (v :: cs)) (hg : W.grownBy W' none) : BoxAt W' b (v :: cs) := h.heap (hg.block b h.lt (by simp))
theorem BoxAt.own {W W' : World} {b : Nat} {v : Value} {cs : List Value} {row : Option Nat} (h : BoxAt W b (v :: cs)) (hg : W.grownBy W' row) (hr : ∀ r, row = some r → ∃ o : Obj, W.heap[r]? = some o ∧ o.isCells = false) : BoxAt W' b (v :: cs) :=
  ⟨fun i u hu => cell_kept (h.cell i u hu) hg hr, fun i => by
    have hb : W'.heap[b]? = W.heap[b]? := by
      refine hg.block b h.lt (fun e => ?_)
      obtain ⟨o, ho, hc⟩ := hr b e.symm
      have := h.cell 0 v rfl
      unfold World.cell? at this; rw [ho] at this; cases o <;> simp_all [Obj.isCells]
    exact (h.heap hb).frozen i⟩

theorem whole_calls (A : Option Addr) (c m : Nat) (w : World) : Calls Try.prog 39 #[.slice A m c] w fun e w' => e = .returned (.agg #[.int .i64 (m : Int), .slice A m c]) ∧ w.grownBy w' none := by
  have hu65 := Try.underlying68
  have hg : w.grownBy (w.alloc (.cells #[.int .i64 (m : Int), .slice A m c] 68)) none := World.grownBy_alloc w _ none
  have hc := World.alloc_heap_new w (.cells #[.int .i64 (m : Int), .slice A m c] 68)
  have HG := Aside0.mk hg
  have HC := Aside0.mk hc
  clear hg hc
  go_enter Try.func39, Try.ntmps39
  go_wp2
  refine bodyPost_ret (results_cell_row rfl _ _ w.heap.size 68 #[.int .i64 (m : Int), .slice A m c] (0, 0) _ rfl HC.out hu65 rfl (by kernel_rfl)) rfl ?_
  exact ⟨rfl, HG.out⟩
theorem own_kpc {base : Nat} {A B : World} {row : Option Nat} (hg : A.grownBy B row) (hr : ∀ r, row = some r → base ≤ r ∧ ∃ o : Obj, A.heap[r]? = some o ∧ o.isCells = false) : KpC (fun _ _ => False) A B :=
  ⟨hg.size, fun b o _ ho hc => by
    refine (hg.block b (Array.getElem?_eq_some_iff.1 ho).1 (fun e => ?_)).trans ho
    obtain ⟨_, o', ho', hc'⟩ := hr b e.symm
    rw [ho] at ho'; cases ho'; rw [hc] at hc'; cases hc'⟩
theorem C_kpc {X : Nat → Obj → Prop} {W W' : World} {A : Option Addr} {m : Nat} {xs : List Int} (h : Kd.C (Kd.int .i64) W A m xs) (hk : KpC X W W') (hx : ∀ a o, A = some a → 0 < m → ¬ X a.block o) : Kd.C (Kd.int .i64) W' A m xs := by
  obtain ⟨h1, h2, h3⟩ := h
  refine ⟨h1, h2, fun hn => ?_⟩
  obtain ⟨ad, e, hc⟩ := h3 hn
  refine ⟨ad, e, fun j p hp => ?_⟩
  obtain ⟨c, hcl, hR, hcc⟩ := hc j p hp
  refine ⟨c, hcl, hR, fun i u hu => ?_⟩
  have h4 := hcc i u hu
  have hb : ∀ o, ¬ X (ad.add (j * (Kd.int .i64).sz + i)).block o := fun o => by rw [add_block]; exact hx ad o e hn
  generalize ad.add (j * (Kd.int .i64).sz + i) = p4 at h4 hb ⊢
  obtain ⟨o, ho⟩ : ∃ o, W.heap[p4.block]? = some o := ⟨_, Array.getElem?_eq_getElem (World.block_lt_of_cell? W _ h4)⟩
  have hoc : o.isCells = true := by
    unfold World.cell? at h4
    rw [ho] at h4
    cases o <;> simp_all [Obj.isCells]
  have h5 := hk.2 _ o (hb o) ho hoc
  unfold World.cell? at h4 ⊢
  rw [ho] at h4; rw [h5]; exact h4
theorem BoxAt.kpc {X : Nat → Obj → Prop} {W W' : World} {b : Nat} {v : Value} {cs : List Value} (h : BoxAt W b (v :: cs)) (hk : KpC X W W') (hx : ∀ o, W.heap[b]? = some o → ¬ X b o) : BoxAt W' b (v :: cs) := by
  obtain ⟨o, ho⟩ : ∃ o, W.heap[b]? = some o := ⟨_, Array.getElem?_eq_getElem h.lt⟩
  exact h.heap ((hk.2 b o (hx o ho) ho (isCells_of (h.cell 0 v rfl) ho)).trans ho.symm)
theorem BoxAt.far {W : World} {b : Nat} {cs : List Value} (h : BoxAt W b cs) {p : Addr} (hp : b ≠ p.block) (x : Value) : BoxAt (W.setCell p x) b cs := h.heap (Below.heap_setCell _ _ _ _ hp)
theorem BoxAt.put1 {W : World} {b : Nat} {u : Value} (h : BoxAt W b [u]) (x : Value) : BoxAt (W.setCell ⟨b, 0, none⟩ x) b [x] :=
  ⟨fun i v hv => by
    match i, hv with
    | 0, hv => cases hv; exact World.cell?_setCell_same' _ _ _ (by rw [h.cell 0 u rfl]; rfl)
    | i + 1, hv => simp at hv, fun i => by rw [World.frozen?_setCell]; exact h.frozen i⟩
theorem BoxAt.put2 {W : World} {b : Nat} {u v : Value} (h : BoxAt W b [u, v]) (x y : Value) : BoxAt ((W.setCell ⟨b, 0, none⟩ x).setCell ⟨b, 1, none⟩ y) b [x, y] := by
  have h0 : (W.setCell ⟨b, 0, none⟩ x).cell? ⟨b, 0, none⟩ = some x := World.cell?_setCell_same' _ _ _ (by rw [h.cell 0 u rfl]; rfl)
  have h1 : (W.setCell ⟨b, 0, none⟩ x).cell? ⟨b, 1, none⟩ = some v := by rw [World.cell?_setCell_other _ _ _ _ (by simp)]; exact h.cell 1 v rfl
  refine ⟨fun i z hz => ?_, fun i => by rw [World.frozen?_setCell, World.frozen?_setCell]; exact h.frozen i⟩
  match i, hz with
  | 0, hz => cases hz; rw [World.cell?_setCell_other _ _ _ _ (by simp)]; exact h0
  | 1, hz => cases hz; exact World.cell?_setCell_same' _ _ _ (by rw [h1]; rfl)
  | i + 2, hz => simp at hz
theorem stores3 {w W : World} {S : Nat} {u v z : Value} (y1 : BoxAt W (S + 1) [u, v]) (y2 : BoxAt W (S + 1 + 1) [z]) (y3 : Below S w W) (x y r : Value) (V : World) (hV : V = ((W.setCell ⟨S + 1, 0, none⟩ x).setCell ⟨S + 1, 1, none⟩ y).setCell ⟨S + 1 + 1, 0, none⟩ r) :
    KeepsOthers W V ∧ BoxAt V (S + 1) [x, y] ∧ BoxAt V (S + 1 + 1) [r] ∧ Below S w V := by
  subst hV
  refine ⟨((KeepsOthers.setCell _ _ _).trans (KeepsOthers.setCell _ _ _)).trans (KeepsOthers.setCell _ _ _), (y1.put2 x y).far (by simp) r, ((y2.far (by simp) x).far (by simp) y).put1 r, ?_⟩
  exact ((y3.setCell (p := ⟨S + 1, 0, none⟩) (by simp) _).setCell (p := ⟨S + 1, 1, none⟩) (by simp) _).setCell (p := ⟨S + 1 + 1, 0, none⟩) (by simp; omega) _
theorem find_at {α : Type} {xs pre rest : List α} {x : α} {p : α → Bool} (h : xs = pre ++ x :: rest) (hp : ∀ q ∈ pre, p q = false) (hx : p x = true) : xs.find? p = some x := by
  subst h
  rw [List.find?_append, List.find?_eq_none.2 (fun q hq => by simp [hp q hq])]
  simp [hx]
def wayOf (a b : List Int) : Option (Nat × Nat) := (formPairs a.length).find? fun p => decide (formOf a.length p.1 p.2 a = b)
def rows_Way.f (l0 l1 : List Int) : Option (Int × Int × Int) := if IsRow l0 ∧ IsRow l1 ∧ l0.length = l1.length then (match wayOf l0 l1 with | some p => some ((p.1 : Int), (p.2 : Int), 0) | none => some (0, 0, 4)) else some (0, 0, 2)
set_option maxHeartbeats 4000000 in
set_option maxRecDepth 100000 in
theorem rows_Way.calls (A0 : Option Addr) (c0 : Nat) (l0 : List Int) (A1 : Option Addr) (c1 : Nat) (l1 : List Int) (r1 r2 r3 : Int) (w : World) (hr0 : Kd.C (Kd.int .i64) w A0 l0.length l0) (hc0 : l0.length ≤ c0) (hr1 : Kd.C (Kd.int .i64) w A1 l1.length l1) (hc1 : l1.length ≤ c1) (h : rows_Way.f l0 l1 = some (r1, r2, r3)) :
    Calls Try.prog 26 #[.slice A0 l0.length c0, .slice A1 l1.length c1] w fun e w' => e = .returned (.tuple #[.agg #[.int .i64 r1, .int .i64 r2], .int .i64 r3]) ∧ Below w.heap.size w w' := by
  have HR0 := Aside0.mk hr0
  have HR1 := Aside0.mk hr1
  have HC0 := Aside0.mk hc0
  have HC1 := Aside0.mk hc1
  obtain ⟨kv0, hv0⟩ := Ev.rounds (g := fun k => rows_row_valid.f k l0) (valid_ev l0)
  obtain ⟨kv1, hv1⟩ := Ev.rounds (g := fun k => rows_row_valid.f k l1) (valid_ev l1)
  have HV0 := Aside0.mk (fun W (hb : Below w.heap.size w W) => rows_row_valid.calls kv0 A0 c0 l0 _ W (Kd.C_below hr0 hb) hc0 hv0)
  have HV1 := Aside0.mk (fun W (hb : Below w.heap.size w W) => rows_row_valid.calls kv1 A1 c1 l1 _ W (Kd.C_below hr1 hb) hc1 hv1)
  have H := Aside0.mk h
  clear hr0 hr1 hc0 hc1 hv0 hv1 h
  refine (callsIn_wide (n := 3)).1 ?_
  refine callsIn_of_wp_marks Try.func26 rfl trivial ?_ rfl
  simp only [Try.ntmps26, List.size_toArray, List.length_cons, List.length_nil, Nat.reduceAdd, Nat.reduceSub, Array.replicate_succ, Array.replicate_zero, List.push_toArray, List.append_toArray, List.nil_append, List.cons_append]
  obtain ⟨S, hS⟩ : ∃ S, S = w.heap.size := ⟨_, rfl⟩
  obtain ⟨W0, hW0⟩ : ∃ W0, (((w.alloc (.cells #[.slice A1 l1.length c1] 27)).alloc (.cells #[.int .i64 0, .int .i64 0] 46)).alloc (.cells #[.int .i64 0] 22)) = W0 := ⟨_, rfl⟩
  have hB0 : Below w.heap.size w W0 := by rw [← hW0]; exact below_alloc (below_alloc (below_alloc (Below.refl _ _) _) _) _
  have HB0 := Aside0.mk hB0
  have HW0 := Aside0.mk hW0
  have HS := Aside0.mk hS
  clear hB0
  have HX0 : Aside0 (BoxAt W0 w.heap.size [.slice A1 l1.length c1] ∧ BoxAt W0 (w.heap.size + 1) [.int .i64 0, .int .i64 0] ∧ BoxAt W0 (w.heap.size + 1 + 1) [.int .i64 0]) := ⟨by
    have x0 := BoxAt.new w [.slice A1 l1.length c1] 27
    have x1 := BoxAt.new (w.alloc (.cells #[.slice A1 l1.length c1] 27)) [.int .i64 0, .int .i64 0] 46
    have x2 := BoxAt.new ((w.alloc (.cells #[.slice A1 l1.length c1] 27)).alloc (.cells #[.int .i64 0, .int .i64 0] 46)) [.int .i64 0] 22
    simp only [World.size_alloc] at x1 x2
    rw [← HW0.out]
    exact ⟨(x0.alloc _).alloc _, x1.alloc _, x2⟩⟩
  have q0 : W0.cell? ⟨w.heap.size, 0, none⟩ = some (.slice A1 l1.length c1) := HX0.out.1.cell 0 _ rfl
  have q10 := HX0.out.2.1.cell 0 _ rfl
  have q11 := HX0.out.2.1.cell 1 _ rfl
  have qf10 := HX0.out.2.1.frozen 0
  have qf11 := HX0.out.2.1.frozen 1
  have q20 := HX0.out.2.2.cell 0 _ rfl
  have qf20 := HX0.out.2.2.frozen 0
  by_cases hr0 : IsRow l0
  · by_cases hr1 : IsRow l1
    · by_cases hle : l0.length = l1.length
      · have e0 : decide (IsRow l0) = true := decide_eq_true hr0
        have e1 : decide (IsRow l1) = true := decide_eq_true hr1
        rw [e0] at HV0
        rw [e1] at HV1
        have hne : ((l0.length : Int) != (l1.length : Int)) = false := by simp [hle]
        have HLE := Aside0.mk hle
        clear hle
        gi_wp2_with (first | (refine ⟨trivial, ?_⟩; (try rw [hW0]); gi_at_call 38; (with_reducible refine (callsIn_wide.2 (HV0.out _ HB0.out)).mono ?_); rintro e w' ⟨rfl, ⟨q, rfl⟩⟩; clear HV0 hW0) | (refine ⟨trivial, ?_⟩; gi_at_call 38; (with_reducible refine (callsIn_wide.2 (HV1.out _ (pw_below_drewN HB0.out _))).mono ?_); rintro e w' ⟨rfl, ⟨q2, rfl⟩⟩; clear HV1) | (refine ⟨trivial, ?_⟩; gi_at_call 39; (with_reducible refine (callsIn_wide.2 (whole_calls _ _ _ _)).mono ?_); rintro e w' ⟨rfl, hg⟩))
        have hg2 : W0.grownBy w' none := grown_of_below ((pw_below_drewN (Below.refl W0.heap.size W0) _).grown hg (Nat.le_refl _) (fun k e => by cases e)) none
        obtain ⟨x0, x1, x2⟩ := HX0.out
        have x0 := x0.grown hg2
        have x1 := x1.grown hg2
        have x2 := x2.grown hg2
        have hbw : Below w.heap.size w w' := (HB0.out).grown hg2 HB0.out.size (fun k e => by cases e)
        have hl3 : w.heap.size + 1 + 1 < w'.heap.size := x2.lt
        have HG := Aside0.mk hg2
        have HX := Aside0.mk (And.intro x0 (And.intro x1 x2))
        have HBW := Aside0.mk hbw
        have HL3 := Aside0.mk hl3
        have hC : ∀ W, KpC (fun b _ => b = w.heap.size + 1 ∨ b = w.heap.size + 1 + 1) w' W → Kd.C (Kd.int .i64) W A0 l0.length l0 := fun W hk => C_kpc (Kd.C_below HR0.out hbw) hk (fun a o ha hm hb => by
          rcases hb with e | e
          · exact Kd.far_C 0 HR0.out (by omega) a ha hm e
          · exact Kd.far_C 0 HR0.out (by omega) a ha hm e)
        clear hg hg2 x0 x1 x2 hbw hl3 hne q0 q10 q11 qf10 qf11 q20 qf20
        refine range_fs rfl (by omega) (gf := 40) (fs := #[.agg #[.int .i64 (l0.length : Int), .slice A0 l0.length c0]]) (lb := #[]) rfl trivial (enters_of Try.func40 (by kernel_rfl) rfl)
          (forms_seq (fun b _ => b = w.heap.size + 1 ∨ b = w.heap.size + 1 + 1) l0.length (by have := hr0.1; omega) (by have := hr0.2.1; omega) A0 c0 l0 (by have := hr0.2.1; omega) (row_small hr0) HC0.out w' (fun b cs hb => by have := HL3.out; omega) hC)
          (fun x W vals hE => by obtain ⟨A, c, rfl, _⟩ := hE; rfl)
          (fun A B h => KeepsOthers.of_grownBy h (fun j o e => by cases e))
          (fun h k => h.trans k)
          (fun W l o o' hl ho hc => KpC.putObj W ho hc)
          (fun pre W => (BoxAt W w.heap.size [.slice A1 l1.length c1] ∧ (∃ u v, BoxAt W (w.heap.size + 1) [u, v]) ∧ (∃ u, BoxAt W (w.heap.size + 1 + 1) [u]) ∧ Below w.heap.size w W ∧ ∀ p ∈ pre, formOf l0.length p.1 p.2 l0 ≠ l1))
          (fun c pre W => (c = .ret ∧ ∃ p, wayOf l0 l1 = some p ∧ BoxAt W (w.heap.size + 1) [.int .i64 (p.1 : Int), .int .i64 (p.2 : Int)] ∧ BoxAt W (w.heap.size + 1 + 1) [.int .i64 0] ∧ Below w.heap.size w W))
          ?hI ?hIx ?hIs ?hIxs ?h0
          (fun x a' W => ∃ Bx A c, a' = { tmps := #[.slice A0 l0.length c0, .slice A1 l1.length c1, undef, .pointer (some ⟨w.heap.size, 0, none⟩), .pointer (some ⟨w.heap.size + 1, 0, none⟩), .pointer (some ⟨w.heap.size + 1 + 1, 0, none⟩), .pointer (some ⟨Bx, 0, none⟩), .slice A0 l0.length c0, .bool true, .bool false, .bool false, .slice A1 l1.length c1, .bool true, .bool false, .bool false, .bool false, .slice A0 l0.length c0, .int .i64 l0.length, .slice A1 l1.length c1, .int .i64 l1.length, .bool false, .bool false, undef, .slice A0 l0.length c0, .agg #[.int .i64 l0.length, .slice A0 l0.length c0], .func (.func 40) #[.agg #[.int .i64 l0.length, .slice A0 l0.length c0]] #[], .agg #[.int .i64 x.1, .int .i64 x.2, .slice A (formOf l0.length x.1 x.2 l0).length c], undef, undef, undef, undef, undef, undef, undef], defers := [] } ∧
            BoxAt W Bx [.int .i64 x.1, .int .i64 x.2, .slice A (formOf l0.length x.1 x.2 l0).length c] ∧ Kd.C (Kd.int .i64) W A (formOf l0.length x.1 x.2 l0).length (formOf l0.length x.1 x.2 l0) ∧ (formOf l0.length x.1 x.2 l0).length ≤ c)
          ?hAx ?assign ?body ?done ?stop
        case hI =>
          rintro s A B row ⟨y0, ⟨u, v, y1⟩, ⟨z, y2⟩, y3, y4⟩ hg hr
          exact ⟨y0.own hg (fun r e => (hr r e).2), ⟨u, v, y1.own hg (fun r e => (hr r e).2)⟩, ⟨z, y2.own hg (fun r e => (hr r e).2)⟩, y3.grown hg y3.size (fun k e => by have := (hr k e).1; have := HBW.out.size; omega), y4⟩
        case hIx =>
          rintro c s A B row ⟨y0, p, y1, y2, y3, y4⟩ hg hr
          exact ⟨y0, p, y1, y2.own hg (fun r e => (hr r e).2), y3.own hg (fun r e => (hr r e).2), y4.grown hg y4.size (fun k e => by have := (hr k e).1; have := HBW.out.size; omega)⟩
        case hIs =>
          rintro s A B ⟨y0, ⟨u, v, y1⟩, ⟨z, y2⟩, y3, y4⟩ hg
          exact ⟨y0.grown hg, ⟨u, v, y1.grown hg⟩, ⟨z, y2.grown hg⟩, y3.grown hg y3.size (fun k e => by cases e), y4⟩
        case hIxs =>
          rintro c s A B ⟨y0, p, y1, y2, y3, y4⟩ hg
          exact ⟨y0, p, y1, y2.grown hg, y3.grown hg, y4.grown hg y4.size (fun k e => by cases e)⟩
        case h0 => exact ⟨HX.out.1, ⟨_, _, HX.out.2.1⟩, ⟨_, HX.out.2.2⟩, HBW.out, by simp⟩
        case hAx =>
          rintro x a' s A B row ⟨Bx, A', c, e, hb, hC, hl⟩ hg hr
          exact ⟨Bx, A', c, e, hb.own hg (fun r e => (hr r e).2), C_kpc hC (own_kpc hg hr) (fun _ _ _ _ h => h), hl⟩
        case assign =>
          rintro l pre x vals W K hI ⟨A, c, rfl, hCv, hlv⟩ hK
          have HK := Aside0.mk hK
          have HI := Aside0.mk hI
          have HCV := Aside0.mk hCv
          have HLV := Aside0.mk hlv
          clear hK hI hCv hlv hC
          gi_wp2
          have g1 : W.grownBy (W.alloc (.cells #[.int .i64 (x.1 : Int), .int .i64 (x.2 : Int), .slice A (formOf l0.length x.1 x.2 l0).length c] 71)) none := World.grownBy_alloc W _ none
          obtain ⟨y0, ⟨u, v, y1⟩, ⟨z, y2⟩, y3, y4⟩ := HI.out
          exact HK.out _ _ (KeepsOthers.of_grownBy g1 (fun j o e => by cases e)) (KpC.of_grown g1)
            ⟨y0.grown g1, ⟨u, v, y1.grown g1⟩, ⟨z, y2.grown g1⟩, y3.grown g1 y3.size (fun k e => by cases e), y4⟩
            ⟨W.heap.size, A, c, rfl, BoxAt.new W _ _, C_kpc HCV.out (KpC.of_grown (X := fun _ _ => False) g1) (fun _ _ _ _ h => h), HLV.out⟩
        case body =>
          rintro l pre x rest a' W hlw hloop hx ⟨y0, ⟨u, v, y1⟩, ⟨z, y2⟩, y3, y4⟩ ⟨Bx, A, c, rfl, hb, hCx, hlx⟩
          have hl1 : (formOf l0.length x.1 x.2 l0).length < 9223372036854775807 := by
            have : (formOf l0.length x.1 x.2 l0).length = l0.length := by unfold formOf; split <;> simp
            have := hr0.2.1; omega
          obtain ⟨ke, hke⟩ := Ev.rounds (g := fun k => slices_Equal_int_int.f k (formOf l0.length x.1 x.2 l0) l1) (Equal_ev _ _ hl1)
          have HEQ := Aside0.mk (slices_Equal_int_int.calls ke A c _ A1 c1 l1 _ W hCx hlx (Kd.C_below HR1.out y3) HC1.out hke)
          have b2 := hb.cell 2 _ rfl
          have b0 := hb.cell 0 _ rfl
          have b1 := hb.cell 1 _ rfl
          have s0 := y0.cell 0 _ rfl
          have t0 := y1.cell 0 _ rfl
          have t1 := y1.cell 1 _ rfl
          have tf0 := y1.frozen 0
          have tf1 := y1.frozen 1
          have z0 := y2.cell 0 _ rfl
          have zf := y2.frozen 0
          have HY := Aside0.mk (And.intro y0 (And.intro y1 (And.intro y2 (And.intro y3 y4))))
          have HB := Aside0.mk hb
          have HXX := Aside0.mk hx
          clear hb hx y0 y1 y2 y3 y4 hCx hlx hke hl1 hC
          by_cases hd : formOf l0.length x.1 x.2 l0 = l1
          · have HD := Aside0.mk hd
            rw [decide_eq_true hd] at HEQ
            clear hd
            gi_wp2_with (refine ⟨trivial, ?_⟩; gi_at_call 11; (with_reducible refine (CallsIn.inRound l (callsIn_wide.2 HEQ.out)).mono ?_); rintro e w2 ⟨rfl, ⟨q, rfl⟩⟩)
            obtain ⟨y0, y1, y2, y3, y4⟩ := HY.out
            have hs3 := stores3 (y1.drewN q) (y2.drewN q) (pw_below_drewN y3 q) (.int .i64 (x.1 : Int)) (.int .i64 (x.2 : Int)) (.int .i64 0) _ rfl
            refine ⟨(show KeepsOthers W (W.drewN q) from ⟨Nat.le_refl _, fun _ _ h _ => h⟩).trans hs3.1, rfl, x, ?_, hs3.2.1, hs3.2.2.1, hs3.2.2.2⟩
            exact find_at HXX.out (fun p hp => decide_eq_false (y4 p hp)) (decide_eq_true HD.out)
          · have HD := Aside0.mk hd
            rw [decide_eq_false hd] at HEQ
            clear hd
            gi_wp2_with (refine ⟨trivial, ?_⟩; gi_at_call 11; (with_reducible refine (CallsIn.inRound l (callsIn_wide.2 HEQ.out)).mono ?_); rintro e w2 ⟨rfl, ⟨q, rfl⟩⟩)
            obtain ⟨y0, y1, y2, y3, y4⟩ := HY.out
            refine ⟨⟨Nat.le_refl _, fun _ _ h _ => h⟩, ⟨Nat.le_refl _, fun _ _ _ h _ => h⟩, y0.drewN q, ⟨_, _, y1.drewN q⟩, ⟨_, y2.drewN q⟩, pw_below_drewN y3 q, ?_⟩
            intro p hp
            rcases List.mem_append.1 hp with h | h
            · exact y4 p h
            · rw [List.mem_singleton] at h; subst h; exact HD.out
        case done =>
          rintro D W hD ⟨y0, ⟨u, v, y1⟩, ⟨z, y2⟩, y3, y4⟩ hK
          have t0 := y1.cell 0 _ rfl
          have t1 := y1.cell 1 _ rfl
          have tf0 := y1.frozen 0
          have tf1 := y1.frozen 1
          have z0 := y2.cell 0 _ rfl
          have zf := y2.frozen 0
          have HY := Aside0.mk (And.intro y1 (And.intro y2 (And.intro y3 y4)))
          have HK := Aside0.mk hK
          clear y0 y1 y2 y3 y4 hK hC
          gi_wp2
          obtain ⟨y1, y2, y3, y4⟩ := HY.out
          have hs3 := stores3 y1 y2 y3 (.int .i64 0) (.int .i64 0) (.int .i64 4) _ rfl
          have hkk := hs3.1.same D _ HK.out rfl
          refine ⟨by simp, .inl ⟨_, _, rfl, run_takeDeferred hkk, ?_⟩⟩
          have hk := KpC.putObj (X := fun _ _ => False) (o' := .deferred none) _ hkk rfl
          refine ⟨_, results_arr_int rfl _ _ (w.heap.size + 1) (w.heap.size + 1 + 1) 0 0 4 rfl rfl (hk.cell (fun _ _ h => h) (hs3.2.1.cell 0 _ rfl)) (hk.cell (fun _ _ h => h) (hs3.2.1.cell 1 _ rfl)) (hk.cell (fun _ _ h => h) (hs3.2.2.1.cell 0 _ rfl)), ?_, ?_⟩
          · have hn : wayOf l0 l1 = none := List.find?_eq_none.2 (fun p hp => by simp [y4 p hp])
            have h := H.out
            unfold rows_Way.f at h
            rw [if_pos ⟨hr0, hr1, HLE.out⟩, hn] at h
            cases h; rfl
          · exact hs3.2.2.2.grown (grownBy_putObj' _ D _) hs3.2.2.2.size (fun k e => by cases e; have := HBW.out.size; omega)
        case stop =>
          rintro D cc pre rest W hD hx ⟨rfl, p, hp, y1, y2, y3⟩ hK
          have HY := Aside0.mk (And.intro y1 (And.intro y2 y3))
          have HK := Aside0.mk hK
          clear y1 y2 y3 hK hC
          gi_wp2
          obtain ⟨y1, y2, y3⟩ := HY.out
          refine ⟨by simp, .inl ⟨_, _, rfl, run_takeDeferred HK.out, ?_⟩⟩
          have hk := KpC.putObj (X := fun _ _ => False) (o' := .deferred none) _ HK.out rfl
          refine ⟨_, results_arr_int rfl _ _ (w.heap.size + 1) (w.heap.size + 1 + 1) (p.1 : Int) (p.2 : Int) 0 rfl rfl (hk.cell (fun _ _ h => h) (y1.cell 0 _ rfl)) (hk.cell (fun _ _ h => h) (y1.cell 1 _ rfl)) (hk.cell (fun _ _ h => h) (y2.cell 0 _ rfl)), ?_, ?_⟩
          · have h := H.out
            unfold rows_Way.f at h
            rw [if_pos ⟨hr0, hr1, HLE.out⟩, hp] at h
            cases h; rfl
          · exact y3.grown (grownBy_putObj' _ D _) y3.size (fun k e => by cases e; have := HBW.out.size; omega)
      · have e0 : decide (IsRow l0) = true := decide_eq_true hr0
        have e1 : decide (IsRow l1) = true := decide_eq_true hr1
        rw [e0] at HV0
        rw [e1] at HV1
        have hne : ((l0.length : Int) != (l1.length : Int)) = true := bne_iff_ne.2 (by omega)
        have HLEN := Aside0.mk hle
        clear hle
        gi_wp2_with (first | (refine ⟨trivial, ?_⟩; (try rw [hW0]); gi_at_call 38; (with_reducible refine (callsIn_wide.2 (HV0.out _ HB0.out)).mono ?_); rintro e w' ⟨rfl, ⟨q, rfl⟩⟩; clear HV0 hW0) | (refine ⟨trivial, ?_⟩; gi_at_call 38; (with_reducible refine (callsIn_wide.2 (HV1.out _ (pw_below_drewN HB0.out _))).mono ?_); rintro e w' ⟨rfl, ⟨q2, rfl⟩⟩; clear HV1))
        have hs3 := stores3 (HX0.out.2.1.drewN (q + q2)) (HX0.out.2.2.drewN (q + q2)) (pw_below_drewN HB0.out (q + q2)) (.int .i64 0) (.int .i64 0) (.int .i64 2) _ rfl
        refine ⟨_, results_arr_int rfl _ _ (w.heap.size + 1) (w.heap.size + 1 + 1) 0 0 2 rfl rfl (hs3.2.1.cell 0 _ rfl) (hs3.2.1.cell 1 _ rfl) (hs3.2.2.1.cell 0 _ rfl), ?_, hs3.2.2.2⟩
        have h := H.out
        unfold rows_Way.f at h
        rw [if_neg (fun hh => HLEN.out hh.2.2)] at h
        cases h; rfl
    · have e0 : decide (IsRow l0) = true := decide_eq_true hr0
      have e1 : decide (IsRow l1) = false := decide_eq_false hr1
      rw [e0] at HV0
      rw [e1] at HV1
      gi_wp2_with (first | (refine ⟨trivial, ?_⟩; (try rw [hW0]); gi_at_call 38; (with_reducible refine (callsIn_wide.2 (HV0.out _ HB0.out)).mono ?_); rintro e w' ⟨rfl, ⟨q, rfl⟩⟩; clear HV0 hW0) | (refine ⟨trivial, ?_⟩; gi_at_call 38; (with_reducible refine (callsIn_wide.2 (HV1.out _ (pw_below_drewN HB0.out _))).mono ?_); rintro e w' ⟨rfl, ⟨q2, rfl⟩⟩; clear HV1))
      have hs3 := stores3 (HX0.out.2.1.drewN (q + q2)) (HX0.out.2.2.drewN (q + q2)) (pw_below_drewN HB0.out (q + q2)) (.int .i64 0) (.int .i64 0) (.int .i64 2) _ rfl
      refine ⟨_, results_arr_int rfl _ _ (w.heap.size + 1) (w.heap.size + 1 + 1) 0 0 2 rfl rfl (hs3.2.1.cell 0 _ rfl) (hs3.2.1.cell 1 _ rfl) (hs3.2.2.1.cell 0 _ rfl), ?_, hs3.2.2.2⟩
      have h := H.out
      unfold rows_Way.f at h
      rw [if_neg (fun hh => hr1 hh.2.1)] at h
      cases h; rfl
  · have e0 : decide (IsRow l0) = false := decide_eq_false hr0
    rw [e0] at HV0
    gi_wp2_with (refine ⟨trivial, ?_⟩; (try rw [hW0]); gi_at_call 38; (with_reducible refine (callsIn_wide.2 (HV0.out _ HB0.out)).mono ?_); rintro e w' ⟨rfl, ⟨q, rfl⟩⟩; clear HV0 hW0)
    refine ⟨trivial, ?_⟩
    gi_wp2
    have hs3 := stores3 (HX0.out.2.1.drewN q) (HX0.out.2.2.drewN q) (pw_below_drewN HB0.out q) (.int .i64 0) (.int .i64 0) (.int .i64 2) _ rfl
    refine ⟨_, results_arr_int rfl _ _ (w.heap.size + 1) (w.heap.size + 1 + 1) 0 0 2 rfl rfl (hs3.2.1.cell 0 _ rfl) (hs3.2.1.cell 1 _ rfl) (hs3.2.2.1.cell 0 _ rfl), ?_, hs3.2.2.2⟩
    have h := H.out
    unfold rows_Way.f at h
    rw [if_neg (fun hh => hr0 hh.1)] at h
    cases h; rfl

end Go.Proofs.Ytknchioabngbiaa.P
namespace Go.Proofs.Ytknchioabngbiaa.P
/-! A region whose order is drawn, within a round of a range over a function: operations that leave the world alone but for draws, and one store behind all of them. -/
section
variable {F : Fence} {n : Nat} {P : Program} {ops : Array Oper} {st : Oper} {C : World → Prop}
theorem push_ready_lt {listed : Array Bool} {j : Nat} (hs : listed.size = ops.size) (hlt : ∀ (j : Nat) (o : Oper), ops[j]? = some o → ∀ e ∈ o.after, e.on < j) (hj : j < ops.size) :
    j ∈ Region.ready .any (ops.push st) (listed.push false) ↔ j ∈ Region.ready .any ops listed := by
  have g : ∀ (k : Nat) (d : Bool), k < ops.size → (listed.push false).getD k d = listed.getD k d := fun k d hk => by
    simp only [Array.getD_eq_getD_getElem?, Array.getElem?_push, hs, if_neg (show ¬ k = ops.size by omega)]
  have o0 : (ops.push st)[j]? = ops[j]? := by rw [Array.getElem?_push, if_neg (by omega)]
  rw [mem_ready, mem_ready, g j true hj, o0]
  constructor
  · rintro ⟨h0, o, ho, h⟩
    exact ⟨h0, o, ho, fun e he hb => by rw [← g e.on false (by have := hlt j o ho e he; omega)]; exact h e he hb⟩
  · rintro ⟨h0, o, ho, h⟩
    exact ⟨h0, o, ho, fun e he hb => by rw [g e.on false (by have := hlt j o ho e he; omega)]; exact h e he hb⟩
/-- where nothing may come up, all has come -/
theorem all_listed {listed : Array Bool} (hs : listed.size = ops.size) (hlt : ∀ (j : Nat) (o : Oper), ops[j]? = some o → ∀ e ∈ o.after, e.on < j) (h : Region.ready .any ops listed = []) :
    ∀ j, j < ops.size → listed.getD j false = true := by
  intro j
  induction j using Nat.strongRecOn with
  | _ j ih =>
    intro hj
    cases hv : listed.getD j false with
    | true => rfl
    | false =>
      obtain ⟨o, ho⟩ : ∃ o, ops[j]? = some o := ⟨ops[j], by simp [hj]⟩
      have : j ∈ Region.ready .any ops listed := by
        rw [mem_ready]
        refine ⟨?_, o, ho, fun e he _ => ih e.on (hlt j o ho e he) (by have := hlt j o ho e he; omega)⟩
        rw [Array.getD_eq_getD_getElem?] at hv ⊢
        rw [show listed[j]? = some listed[j] by simp [hs, hj]] at hv ⊢
        exact hv
      rw [h] at this
      cases this
theorem anyIn_nil {Q' : Exit → Act → World → Prop} {a : Act} {w : World} {os : Array Oper} {listed : Array Bool} (h : Region.ready .any os listed = []) (hq : Q' .normal a w) : ∀ fuel, wpAnyIn F n P .any os Q' fuel listed a w
  | 0 => ⟨h, hq⟩
  | fuel + 1 => ⟨fun _ => hq, fun i hi => by rw [h] at hi; cases hi⟩
theorem op_of_quiet {o : Oper} {a : Act} {K : Act → Prop} {K' : Act → World → Prop} {Q' : Exit → Act → World → Prop} {w : World} (hsem : ∀ ρ, o.semAt F.round ρ = execOp ρ o) (hw : C w) (h : ∀ a w', C w' → K a → K' a w')
    (ha : o.askedIn F P a C) (hh : o.quietIn F n P a C K) : o.wpIn F n P a w K' Q' := by
  obtain ⟨v, h1, h2⟩ := hh
  have h3 := h1 w hw
  unfold Oper.quietAtIn at h3
  unfold Oper.wpIn
  refine ⟨ha w hw, ?_⟩
  rw [hsem]
  generalize (execOp a.eval o).run P w = r at *
  cases r with
  | ok x w' =>
    cases x <;> simp only [Oper.quietUponIn] at h3 <;> simp only [Oper.uponIn]
    case value u =>
      obtain ⟨e1, e2⟩ := h3
      rw [e1, e2]
      exact h _ _ hw h2
    case skip =>
      obtain ⟨e1, e2⟩ := h3
      rw [e1, ← e2]
      exact h _ _ hw h2
    case enter f args =>
      obtain ⟨e1, hd, hc⟩ := h3
      rw [e1]
      exact ⟨hd, hc.mono fun e w'' ⟨he, hw''⟩ => by subst he; exact h _ _ hw'' h2⟩
  | halt x w' => simp only [Oper.quietUponIn] at h3
theorem any_store {Q0 : Act → Prop} {Q' : Exit → Act → World → Prop} (hlt : ∀ (j : Nat) (o : Oper), ops[j]? = some o → ∀ e ∈ o.after, e.on < j)
    (hsem : ∀ (j : Nat) (o : Oper), ops[j]? = some o → o.guard = none ∧ ∀ ρ, o.semAt F.round ρ = execOp ρ o) (hst : ∀ e ∈ st.after, e.on < ops.size) (hst2 : ∀ j, j < ops.size → ∃ e ∈ st.after, Region.binds .any e = true ∧ e.on = j) (hsg : st.guard = none)
    (hQ : ∀ a w, C w → Q0 a → st.wpIn F n P a w (Q' .normal) Q') : ∀ (fuel : Nat) (listed : Array Bool) (a : Act) (w : World), C w → listed.size = ops.size →
    wpAnyQIn F n P .any ops C Q0 fuel listed a → wpAnyIn F n P .any (ops.push st) Q' (fuel + 1) (listed.push false) a w := by
  have oM : (ops.push st)[ops.size]? = some st := by simp
  have last : ∀ (listed : Array Bool), listed.size = ops.size → (∀ j, j < ops.size → listed.getD j false = true) → ops.size ∈ Region.ready .any (ops.push st) (listed.push false) := fun listed hs h => by
    rw [mem_ready]
    refine ⟨by simp [Array.getD_eq_getD_getElem?, ← hs], st, oM, fun e he _ => ?_⟩
    have := h e.on (hst e he)
    rw [Array.getD_eq_getD_getElem?] at this ⊢
    rw [Array.getElem?_push, if_neg (by have := hst e he; omega)]
    exact this
  have wt : ∀ (o : Oper) y, o.guard = none → Region.wanted o y = true := fun o y h => by unfold Region.wanted; rw [h]
  have store : ∀ (fuel : Nat) (listed : Array Bool) (a : Act) (w : World), C w → listed.size = ops.size → (∀ j, j < ops.size → listed.getD j false = true) → Q0 a →
      wpOpIn F n P (ops.push st) Q' ops.size (wpAnyIn F n P .any (ops.push st) Q' fuel ((listed.push false).setIfInBounds ops.size true)) a w := fun fuel listed a w hw hs h hq => by
    unfold wpOpIn
    simp only [oM, wt st _ hsg, if_true]
    refine Oper.wpIn_mono (fun a' w' hq' => anyIn_nil ?_ hq' fuel) (hQ a w hw hq)
    rw [List.eq_nil_iff_forall_not_mem]
    intro j hj
    rw [mem_ready] at hj
    obtain ⟨h0, o, ho, _⟩ := hj
    have hjs : j < (ops.push st).size := (Array.getElem?_eq_some_iff.1 ho).1
    rw [Array.size_push] at hjs
    rcases Nat.lt_or_ge j ops.size with c | c
    · have := h j c
      rw [Array.getD_eq_getD_getElem?] at this h0
      rw [Array.getElem?_setIfInBounds, if_neg (by omega), Array.getElem?_push, if_neg (by omega)] at h0
      rw [show listed[j]? = some listed[j] by simp [hs, c]] at this h0
      simp only [Option.getD_some] at this h0
      rw [this] at h0; cases h0
    · obtain rfl : j = ops.size := by omega
      rw [Array.getD_eq_getD_getElem?, Array.getElem?_setIfInBounds, if_pos rfl, if_pos (by simp [hs])] at h0
      cases h0
  have nonempty : ∀ (listed : Array Bool), listed.size = ops.size → Region.ready .any (ops.push st) (listed.push false) = [] → False := fun listed hs h => by
    cases hr : Region.ready .any ops listed with
    | nil =>
      have := last listed hs (all_listed hs hlt hr)
      rw [h] at this; cases this
    | cons j js =>
      have hj : j ∈ Region.ready .any ops listed := by rw [hr]; simp
      have hjs : j < ops.size := by
        have := mem_ready.1 hj
        obtain ⟨_, o, ho, _⟩ := this
        exact (Array.getElem?_eq_some_iff.1 ho).1
      have := (push_ready_lt (st := st) hs hlt hjs).2 hj
      rw [h] at this; cases this
  intro fuel
  induction fuel with
  | zero =>
    intro listed a w hw hs h
    refine ⟨fun h0 => (nonempty listed hs h0).elim, fun i hi => ?_⟩
    have hall := all_listed hs hlt h.1
    have hi' := hi
    rw [mem_ready] at hi'
    obtain ⟨_, o, ho, _⟩ := hi'
    have his : i < (ops.push st).size := (Array.getElem?_eq_some_iff.1 ho).1
    rw [Array.size_push] at his
    rcases Nat.lt_or_ge i ops.size with c | c
    · have := (push_ready_lt (st := st) hs hlt c).1 hi
      rw [h.1] at this; cases this
    · obtain rfl : i = ops.size := by omega
      exact store 0 listed a w hw hs hall h.2
  | succ fuel ih =>
    intro listed a w hw hs h
    refine ⟨fun h0 => (nonempty listed hs h0).elim, fun i hi => ?_⟩
    have hi' := hi
    rw [mem_ready] at hi'
    obtain ⟨hun, o, ho, hal⟩ := hi'
    have his : i < (ops.push st).size := (Array.getElem?_eq_some_iff.1 ho).1
    rw [Array.size_push] at his
    rcases Nat.lt_or_ge i ops.size with c | c
    · have hr := (push_ready_lt (st := st) hs hlt c).1 hi
      have hq := h.2 i hr
      rw [Array.getElem?_push, if_neg (by omega)] at ho
      unfold qOpIn at hq
      simp only [ho] at hq
      obtain ⟨hask, hq⟩ := hq
      rw [wt o _ (hsem i o ho).1, if_pos rfl] at hq
      unfold wpOpIn
      simp only [show (ops.push st)[i]? = some o by rw [Array.getElem?_push, if_neg (by omega)]; exact ho, wt o _ (hsem i o ho).1, if_true]
      refine op_of_quiet (hsem i o ho).2 hw (fun a' w' hw' hk => ?_) hask hq
      have e : (listed.push false).setIfInBounds i true = (listed.setIfInBounds i true).push false := by
        apply Array.ext_getElem?
        intro k
        simp only [Array.getElem?_setIfInBounds, Array.getElem?_push, Array.size_push, Array.size_setIfInBounds, hs]
        by_cases h1 : i = k
        · subst h1
          rw [if_pos rfl, if_pos (by omega), if_neg (by omega), if_pos rfl, if_pos c]
        · rw [if_neg h1, if_neg h1]
      rw [e]
      exact ih _ _ _ hw' (by simp [hs]) hk
    · obtain rfl : i = ops.size := by omega
      obtain rfl : st = o := Option.some.inj (oM.symm.trans ho)
      have hall : ∀ j, j < ops.size → listed.getD j false = true := fun j hj => by
        obtain ⟨e, he, hb, rfl⟩ := hst2 j hj
        have := hal e he hb
        rw [Array.getD_eq_getD_getElem?] at this ⊢
        rw [Array.getElem?_push, if_neg (by omega)] at this
        exact this
      have hr0 : Region.ready .any ops listed = [] := by
        rw [List.eq_nil_iff_forall_not_mem]
        intro j hj
        obtain ⟨h0, o, ho, _⟩ := mem_ready.1 hj
        have hjs : j < ops.size := (Array.getElem?_eq_some_iff.1 ho).1
        have := hall j hjs
        rw [Array.getD_eq_getD_getElem?] at this h0
        rw [show listed[j]? = some listed[j] by simp [hs, hjs]] at this h0
        simp only [Option.getD_some] at this h0
        rw [this] at h0; cases h0
      exact store (fuel + 1) listed a w hw hs hall (h.1 hr0)
/-- **One walk of the text's order serves every order: quiet operations, then one store.** -/
theorem region_store {id : Nat} {Q : Exit → Act → World → Prop} {a : Act} {w : World} {l : List Oper} (hm : P.follows .mixedOrders = true) (hB : Region.lexB .any l.toArray = true)
    (hlt : ∀ (j : Nat) (o : Oper), l.toArray[j]? = some o → ∀ e ∈ o.after, e.on < j)
    (hsem : ∀ (j : Nat) (o : Oper), l.toArray[j]? = some o → o.guard = none ∧ ∀ ρ, o.semAt F.round ρ = execOp ρ o) (hst : ∀ e ∈ st.after, e.on < l.toArray.size) (hst2 : ∀ j, j < l.toArray.size → ∃ e ∈ st.after, Region.binds .any e = true ∧ e.on = j) (hsg : st.guard = none)
    (h : wpQuietIn F n P l.toArray (fun w' => ∃ n, w' = w.drewN n) (fun a' => ∀ w', (∃ n, w' = w.drewN n) → st.wpIn F n P a' w' (Q .normal) Q) l a) : (Code.region id (l.toArray.push st) true).wpIn F n P Q a w := by
  simp only [Region.lexB, Bool.and_eq_true] at hB
  refine wpIn_region_any hm ?_
  have h1 := wpAnyQIn_lex (F := F) (n := n) (P := P) (C := fun w' => ∃ n, w' = w.drewN n) (md := .any) hB.1 l 0 (Array.replicate l.toArray.size false) a (by simp) (by simpa using hB.2) h
  have h2 := any_store (F := F) (n := n) (P := P) (st := st) (Q' := Q) hlt hsem hst hst2 hsg (fun a w hw hq => hq w hw) l.length (Array.replicate l.toArray.size false) a { w with drawn := w.drawn + 1 } ⟨1, rfl⟩ (by simp) h1
  have e : Array.replicate (l.toArray.push st).size false = (Array.replicate l.toArray.size false).push false := by
    rw [Array.size_push, Array.replicate_succ]
  rw [e, Array.size_push]
  simpa using h2
/-- all that is asked of such a region's operations, as one question -/
def noDefer : Op → Bool
  | .defer _ => false
  | _ => true
def storeLast (l : List Oper) : Bool :=
  match l.getLast? with
  | none => false
  | some st => st.guard.isNone && st.after.all (fun e => decide (e.on < l.dropLast.length)) && (List.range l.dropLast.length).all (fun j => st.after.any (fun e => Region.binds .any e && e.on == j)) &&
    Region.lexB .any l.dropLast.toArray && (l.dropLast.zipIdx.all fun p => p.1.guard.isNone && p.1.after.all (fun e => decide (e.on < p.2)) && noDefer p.1.op)
theorem region_store_lit {id : Nat} {Q : Exit → Act → World → Prop} {a : Act} {w : World} {l : List Oper} (hm : P.follows .mixedOrders = true) (hB : storeLast l = true)
    (h : ∀ st, l.getLast? = some st → wpQuietIn F n P l.dropLast.toArray (fun w' => ∃ n, w' = w.drewN n) (fun a' => ∀ w', (∃ n, w' = w.drewN n) → st.wpIn F n P a' w' (Q .normal) Q) l.dropLast a) : (Code.region id l.toArray true).wpIn F n P Q a w := by
  unfold storeLast at hB
  cases hl : l.getLast? with
  | none => rw [hl] at hB; cases hB
  | some st =>
    rw [hl] at hB
    simp only [Bool.and_eq_true, Option.isNone_iff_eq_none] at hB
    obtain ⟨⟨⟨⟨h1, h2⟩, h3⟩, h4⟩, h5⟩ := hB
    have e : l.toArray = l.dropLast.toArray.push st := by
      have hne : l ≠ [] := fun e => by subst e; simp at hl
      have := List.dropLast_concat_getLast hne
      rw [List.getLast?_eq_some_getLast hne] at hl
      rw [Option.some.inj hl] at this
      rw [List.push_toArray, this]
    have h5' : ∀ (j : Nat) (o : Oper), l.dropLast.toArray[j]? = some o → o.guard = none ∧ (∀ e ∈ o.after, e.on < j) ∧ noDefer o.op = true := fun j o ho => by
      rw [List.all_eq_true] at h5
      have hm : (o, j) ∈ l.dropLast.zipIdx := by
        rw [List.mk_mem_zipIdx_iff_getElem?]
        simpa using ho
      have := h5 _ hm
      simp only [Bool.and_eq_true, Option.isNone_iff_eq_none] at this
      refine ⟨this.1.1, fun e he => ?_, this.2⟩
      have := Array.all_eq_true_iff_forall_mem.1 this.1.2 e he
      exact of_decide_eq_true this
    rw [e]
    refine region_store hm h4 (fun j o ho => (h5' j o ho).2.1) (fun j o ho => ⟨(h5' j o ho).1, fun ρ => Oper.semAt_eq _ _ _ (fun c hc => ?_)⟩) (fun e he => ?_) (fun j hj => ?_) h1 (h st hl)
    · have := (h5' j o ho).2.2
      rw [hc] at this; cases this
    · have := Array.all_eq_true_iff_forall_mem.1 h2 e he
      simpa using of_decide_eq_true this
    · rw [List.all_eq_true] at h3
      have := h3 j (List.mem_range.2 (by simpa using hj))
      obtain ⟨e, he, hb⟩ := Array.any_eq_true'.1 this
      simp only [Bool.and_eq_true, beq_iff_eq] at hb
      exact ⟨e, he, hb.1, hb.2⟩
end
end Go.Proofs.Ytknchioabngbiaa.P
namespace Go.Proofs.Ytknchioabngbiaa.P
/-! A region whose order is drawn, within a round of a range over a function: operations that leave the world alone but for draws. -/
section
variable {F : Fence} {n : Nat} {P : Program} {ops : Array Oper} {C : World → Prop}
theorem any_quiet {Q0 : Act → Prop} {Q' : Exit → Act → World → Prop}
    (hsem : ∀ (j : Nat) (o : Oper), ops[j]? = some o → ∀ ρ, o.semAt F.round ρ = execOp ρ o)
    (hQ : ∀ a w, C w → Q0 a → Q' .normal a w) : ∀ (fuel : Nat) (listed : Array Bool) (a : Act) (w : World), C w →
    wpAnyQIn F n P .any ops C Q0 fuel listed a → wpAnyIn F n P .any ops Q' fuel listed a w := by
  intro fuel
  induction fuel with
  | zero => intro listed a w hw h; exact ⟨h.1, hQ a w hw h.2⟩
  | succ fuel ih =>
    intro listed a w hw h
    refine ⟨fun h0 => hQ a w hw (h.1 h0), fun i hi => ?_⟩
    have h1 := h.2 i hi
    unfold qOpIn at h1
    unfold wpOpIn
    cases ho : ops[i]? with
    | none =>
      rw [ho] at h1
      exact ih _ _ _ hw h1
    | some o =>
      rw [ho] at h1
      simp only at h1 ⊢
      obtain ⟨ha, hq⟩ := h1
      split at hq
      · rename_i hwt
        rw [if_pos hwt]
        exact op_of_quiet (hsem i o ho) hw (fun a w' hw' hk => ih _ _ _ hw' hk) ha hq
      · rename_i hwt
        rw [if_neg hwt]
        exact ⟨ha w hw, ih _ _ _ hw hq⟩
theorem region_quiet {id : Nat} {Q : Exit → Act → World → Prop} {a : Act} {w : World} {l : List Oper} (hm : P.follows .mixedOrders = true) (hB : Region.lexB .any l.toArray = true)
    (hsem : ∀ (j : Nat) (o : Oper), l.toArray[j]? = some o → ∀ ρ, o.semAt F.round ρ = execOp ρ o)
    (h : wpQuietIn F n P l.toArray (fun w' => ∃ n, w' = w.drewN n) (fun a' => ∀ w', (∃ n, w' = w.drewN n) → Q .normal a' w') l a) : (Code.region id l.toArray true).wpIn F n P Q a w := by
  simp only [Region.lexB, Bool.and_eq_true] at hB
  refine wpIn_region_any hm ?_
  have h1 := wpAnyQIn_lex (F := F) (n := n) (P := P) (C := fun w' => ∃ n, w' = w.drewN n) (md := .any) hB.1 l 0 (Array.replicate l.toArray.size false) a (by simp) (by simpa using hB.2) h
  have h2 := any_quiet (F := F) (n := n) (P := P) (Q' := Q) hsem (fun a w hw hq => hq w hw) l.length (Array.replicate l.toArray.size false) a { w with drawn := w.drawn + 1 } ⟨1, rfl⟩ h1
  simpa using h2
theorem region_quiet_lit {id : Nat} {Q : Exit → Act → World → Prop} {a : Act} {w : World} {l : List Oper} (hm : P.follows .mixedOrders = true) (hB : (Region.lexB .any l.toArray && l.all fun o => noDefer o.op) = true)
    (h : wpQuietIn F n P l.toArray (fun w' => ∃ n, w' = w.drewN n) (fun a' => ∀ w', (∃ n, w' = w.drewN n) → Q .normal a' w') l a) : (Code.region id l.toArray true).wpIn F n P Q a w := by
  simp only [Bool.and_eq_true] at hB
  refine region_quiet hm hB.1 (fun j o ho ρ => Oper.semAt_eq _ _ _ (fun c hc => ?_)) h
  have h5 := hB.2
  rw [List.all_eq_true] at h5
  have := h5 o (List.mem_of_getElem? (by simpa using ho))
  rw [hc] at this; cases this
end
end Go.Proofs.Ytknchioabngbiaa.P
namespace Go.Proofs.Ytknchioabngbiaa.P
open Go.RowKit Go.Proofs.YtknchioabngbiaaW.PrintWords Go.Proofs.YtknchioabngbiaaW.PrintLast Go.Proofs.YtknchioabngbiaaW.PrintMore
attribute [local go_sem] max2_int min2_int max_two min_two max_three min_three max_four min_four   -- for this text's walks alone
set_option linter.unusedVariables false
set_option linter.unusedSimpArgs false

/-! ### rows_half: function 41 -/
def rows_half.l0 : Nat → Int → List Int → Int → Int → Option (Int)
  | 0, _, _, _, _ => none
  | k + 1, x3, x10, x11, x12 => if x12 < x11 then (if 0 ≤ x12 then (if x12 < (x10.length : Int) then (if 0 ≤ (rd x10 x12) then (rows_half.l0 k (Go.bits .or .i64 x3 (shl .i64 1 (rd x10 x12))) x10 x11 (wrap64 (x12 + 1))) else (none)) else (none)) else (none)) else (some x3)
def rows_half.f (k : Nat) (l0 : List Int) : Option (Int) := if 0 ≤ (wrap64 ((l0.length : Int) / 2)) then (if (wrap64 ((l0.length : Int) / 2)) ≤ (l0.length : Int) then ((some (l0.take ((wrap64 ((l0.length : Int) / 2)) : Int).toNat : List Int)).bind fun y1001 => (rows_half.l0 k 0 y1001 (y1001.length : Int) 0)) else (none)) else (none)
theorem rows_half.mono_l : ∀ k, (∀ y0 y1 y2 y3, LeO (rows_half.l0 k y0 y1 y2 y3) (rows_half.l0 (k + 1) y0 y1 y2 y3))
  | 0 => fun _ _ _ _ r h => by simp [rows_half.l0] at h
  | k + 1 => by
    have ih0 := rows_half.mono_l k
    · intro y0 y1 y2 y3
      unfold rows_half.l0
      repeat' first
      | (with_reducible exact ih0 _ _ _ _)
      | (with_reducible exact LeO.refl _)
      | (with_reducible exact LeO.none _)
      | (with_reducible refine LeO.ite ?_ ?_)
      | (with_reducible refine LeO.bind ?_ (fun _ => ?_))
      | exact ih0 _ _ _ _
      | exact LeO.none _
      | refine LeO.ite ?_ ?_
      | refine LeO.bind ?_ (fun _ => ?_)
theorem rows_half.mono : ∀ a0 k, LeO (rows_half.f k a0) (rows_half.f (k + 1) a0) := by
  intro a0 k
  have ih0 := rows_half.mono_l k
  unfold rows_half.f
  repeat' first
      | (with_reducible exact ih0 _ _ _ _)
      | (with_reducible exact LeO.refl _)
      | (with_reducible exact LeO.none _)
      | (with_reducible refine LeO.ite ?_ ?_)
      | (with_reducible refine LeO.bind ?_ (fun _ => ?_))
      | exact ih0 _ _ _ _
      | exact LeO.none _
      | refine LeO.ite ?_ ?_
      | refine LeO.bind ?_ (fun _ => ?_)
set_option maxHeartbeats 8000000 in
set_option maxRecDepth 100000 in
theorem rows_half.calls (k : Nat) (A0 : Option Addr) (c0 : Nat) (l0 : List Int) (r : Int) (w : World) (hr0 : Kd.C (Kd.int .i64) w A0 l0.length l0) (hc0 : l0.length ≤ c0) (h : rows_half.f k l0 = some r) :
    Calls Try.prog 41 #[.slice A0 l0.length c0] w fun e w' => e = .returned (.int .i64 r) ∧ Drawn0 w w' := by
  have HR0 := Aside0.mk hr0
  have HC0 := Aside0.mk hc0
  clear hr0 hc0
  have H : (if 0 ≤ (wrap64 ((l0.length : Int) / 2)) then (if (wrap64 ((l0.length : Int) / 2)) ≤ (l0.length : Int) then ((some (l0.take ((wrap64 ((l0.length : Int) / 2)) : Int).toNat : List Int)).bind fun y1001 => (rows_half.l0 k 0 y1001 (y1001.length : Int) 0)) else (none)) else (none)) = some r := h
  clear h
  obtain ⟨ji2, hji2⟩ : ∃ j_ : Int, (wrap64 ((l0.length : Int) / 2)) = j_ := ⟨_, rfl⟩
  replace H : (if 0 ≤ (ji2) then (if (ji2) ≤ (l0.length : Int) then ((some (l0.take ((ji2) : Int).toNat : List Int)).bind fun y1001 => (rows_half.l0 k 0 y1001 (y1001.length : Int) 0)) else (none)) else (none)) = some r := by first | (rw [hji2] at H; exact H) | (simp only [hji2] at H ⊢; exact H)
  have hji2w : (IntKind.i64.wrap ((l0.length : Int) / 2)) = ji2 := (i64_w _).trans hji2
  by_cases c3 : 0 ≤ (ji2)
  · rw [if_pos c3] at H
    have c3b0 := eq_true c3
    have c3b1 : decide (0 ≤ (ji2)) = true := decide_eq_true c3
    clear c3
    by_cases c4 : (ji2) ≤ (l0.length : Int)
    · rw [if_pos c4] at H
      have c4b0 := eq_true c4
      have c4b1 : decide ((ji2) ≤ (l0.length : Int)) = true := decide_eq_true c4
      clear c4
      obtain ⟨y1001, hy1001⟩ : ∃ y_ : List Int, y_ = (l0.take ((ji2) : Int).toNat) := ⟨_, rfl⟩
      replace H : (rows_half.l0 k 0 y1001 (y1001.length : Int) 0) = some r := by first | (rw [hy1001]; with_reducible exact H) | (have H2_ := (Option.bind_some _ _).symm.trans H; rw [hy1001]; with_reducible exact H2_) | (have H2_ := (Option.bind_some _ _).symm.trans H; with_reducible exact H2_) | with_reducible exact H | (rw [hy1001]; exact H) | exact H
      have Ny1001 := Aside0.mk hy1001
      clear hy1001
      have H' := Aside0.mk H
      clear H
      obtain ⟨i05, hi05, _, hsz5, _⟩ := info_parts info3
      obtain ⟨hcut5, hA5, hC5⟩ := print_take_of (P := Try.prog) (Value.int .i64) 0 27 3 .i64 Try.underlying27 hi05 hsz5 A0 c0 l0 (ji2) (of_decide_eq_true (by first | (with_reducible assumption) | assumption)) (of_decide_eq_true (by first | (with_reducible assumption) | assumption)) HC0.out
      (first | rw [← Ny1001.out] at hcut5 hA5 hC5 | (simp only [Int.reduceToNat] at hcut5 hA5 hC5; rw [← Ny1001.out] at hcut5 hA5 hC5))
      have HR1002 := Aside0.mk (Kd.C_of_reads (h1 := fun _ => rfl) (hA5 _ (Kd.reads_of_C HR0.out)))
      have HC1002 := Aside0.mk hC5
      clear hA5 hC5 hi05 hsz5
      go_enter Try.func41, Try.ntmps41
      go_wp2
      go_loopg [3, 12] k (fun kq v3 v12 w' => ∃ (x3_1 : Int) (x12_1 : Int), v3 = .int .i64 x3_1 ∧ v12 = .int .i64 x12_1 ∧ Aside0 (rows_half.l0 kq x3_1 y1001 (y1001.length : Int) x12_1 = some r) ∧ Aside0 (kq ≤ k) ∧ Drawn0 w w')
      case atStart => exact ⟨(0), (0), (by first | rfl | (simp; done) | (simp [*]; done)), (by first | rfl | (simp; done) | (simp [*]; done)), H', ⟨Nat.le_refl _⟩, by repeat (first | exact Drawn0.refl _ | apply Drawn0.step)⟩
      case round =>
        clear H'
        try clear p2
        try clear c3
        try clear c3b0
        try clear c3b1
        try clear c4
        try clear c4b0
        try clear c4b1
        obtain ⟨x3_1, x12_1, rfl, rfl, HA, HK1, ⟨m1, rfl⟩⟩ := hrel
        cases gk with
        | zero => exact absurd HA.out (by simp [rows_half.l0])
        | succ k1 =>
          have H := HA.out
          clear HA
          simp only [rows_half.l0] at H
          by_cases c6 : x12_1 < (y1001.length : Int)
          · rw [if_pos c6] at H
            have c6b0 : decide (x12_1 < (y1001.length : Int)) = true := decide_eq_true c6
            clear c6
            by_cases c7 : 0 ≤ x12_1
            · rw [if_pos c7] at H
              have c7b0 : decide (0 ≤ x12_1) = true := decide_eq_true c7
              clear c7
              by_cases c8 : x12_1 < (y1001.length : Int)
              · rw [if_pos c8] at H
                have c8b0 : decide (x12_1 < (y1001.length : Int)) = true := decide_eq_true c8
                clear c8
                by_cases c9 : 0 ≤ (rd y1001 x12_1)
                · rw [if_pos c9] at H
                  have c9b0 := eq_true c9
                  have c9b1 : decide (0 ≤ (rd y1001 x12_1)) = true := decide_eq_true c9
                  clear c9
                  obtain ⟨ji10, hji10⟩ : ∃ j_ : Int, (shl .i64 1 (rd y1001 x12_1)) = j_ := ⟨_, rfl⟩
                  replace H : (rows_half.l0 k1 (Go.bits .or .i64 x3_1 (ji10)) y1001 (y1001.length : Int) (wrap64 (x12_1 + 1))) = some r := by first | (rw [hji10] at H; exact H) | (simp only [hji10] at H ⊢; exact H)
                  have hji10_ : (IntKind.i64.wrap (1 * 2 ^ min (rd y1001 x12_1).toNat 64)) = ji10 := hji10
                  have hji10z : (rd y1001 x12_1) ≤ 64 → (IntKind.i64.wrap (1 * 2 ^ (rd y1001 x12_1).toNat)) = ji10 := shl_small hji10
                  have hji10u : (IntKind.i64.wrap (2 ^ min (rd y1001 x12_1).toNat 64)) = ji10 := by have h_ := hji10_; rw [Int.one_mul] at h_; exact h_
                  have hji10v : (rd y1001 x12_1) ≤ 64 → (IntKind.i64.wrap (2 ^ (rd y1001 x12_1).toNat)) = ji10 := fun hle_ => by have h_ := hji10z hle_; rw [Int.one_mul] at h_; exact h_
                  have hji10y : (wrap64 (1 * 2 ^ min (rd y1001 x12_1).toNat 64)) = ji10 := (i64_w _).symm.trans hji10_
                  have hji10x : (rd y1001 x12_1) ≤ 64 → (wrap64 (1 * 2 ^ (rd y1001 x12_1).toNat)) = ji10 := fun h_ => (i64_w _).symm.trans (hji10z h_)
                  have H' := Aside0.mk H
                  clear H
                  have p1003 : 0 ≤ (x12_1 : Int) := of_decide_eq_true (by first | (with_reducible assumption) | assumption)
                  have q1003 : x12_1 < (y1001.length : Int) := of_decide_eq_true (by first | (with_reducible assumption) | assumption)
                  obtain ⟨ad1003, e1003, hx1003_0⟩ := Kd.at_int HR1002.out x12_1 p1003 q1003
                  cases e1003
                  replace p1003 := eq_true p1003
                  replace q1003 := eq_true q1003
                  go_wp2
                  go_roundg k1
                  case measure => have := HK1.out; omega
                  case rel => exact ⟨(Go.bits .or .i64 x3_1 (ji10)), (wrap64 (x12_1 + 1)), (by first | rfl | (simp; done) | (simp only [← hji10] <;> (first | rfl | simp)) | (simp [*]; done)), (by first | rfl | (simp; done) | (simp [*]; done)), H', ⟨by have := HK1.out; omega⟩, by repeat (first | exact Drawn0.refl _ | apply Drawn0.step)⟩
                · rw [if_neg c9] at H
                  exact absurd H (by simp)
              · rw [if_neg c8] at H
                exact absurd H (by simp)
            · rw [if_neg c7] at H
              exact absurd H (by simp)
          · rw [if_neg c6] at H
            have c6b0 : decide (x12_1 < (y1001.length : Int)) = false := decide_eq_false c6
            clear c6
            obtain rfl := Option.some.inj H
            go_wp2
            go_ret
            exact ⟨by first | rfl | (simp; done) | (simp only [← hji2] <;> (first | rfl | simp)) | (simp [*]; done), by repeat (first | exact Drawn0.refl _ | apply Drawn0.step)⟩
    · rw [if_neg c4] at H
      exact absurd H (by simp)
  · rw [if_neg c3] at H
    exact absurd H (by simp)

end Go.Proofs.Ytknchioabngbiaa.P
namespace Go.Proofs.Ytknchioabngbiaa.P
open Go.RowKit Go.Proofs.YtknchioabngbiaaW.PrintWords Go.Proofs.YtknchioabngbiaaW.PrintLast Go.Proofs.YtknchioabngbiaaW.PrintMore
attribute [local go_sem] max2_int min2_int max_two min_two max_three min_three max_four min_four   -- for this text's walks alone
set_option linter.unusedVariables false
set_option linter.unusedSimpArgs false

attribute [local go_sem] Oper.semAt_some
/-! rows.With -/
/-- a row of one's own stays, whatever but cells is turned -/
theorem owns_own {A B : World} {base n size : Nat} {e : TypeId} {v : Value} {xs : List Value} {row : Option Nat} (h : A.ownsRow base e size v n xs) (hg : A.grownBy B row) (hr : ∀ r, row = some r → ∃ o : Obj, A.heap[r]? = some o ∧ o.isCells = false) : B.ownsRow base e size v n xs := by
  refine h.kept hg ?_
  rcases h.2 with ⟨rfl, _⟩ | ⟨g, cap, cur, rfl, _, hgg, _⟩
  · exact .inl rfl
  · refine .inr (fun e => ?_)
    obtain ⟨o, ho, hc⟩ := hr g e.symm
    rw [hgg] at ho; cases ho; cases hc
theorem owns_far {W : World} {base n size : Nat} {e : TypeId} {v : Value} {xs : List Value} (h : W.ownsRow base e size v n xs) {p : Addr} (hp : p.block < base) (u : Value) : (W.setCell p u).ownsRow base e size v n xs := by
  refine own_setCell h ?_ u
  intro e
  have := (h.lt _ e.symm).1
  omega
theorem C_lt {w : World} {A : Option Addr} {m : Nat} {xs : List Int} (h : Kd.C (Kd.int .i64) w A m xs) : ∀ a, A = some a → 0 < m → a.block < w.heap.size := fun a ha hm => by
  rcases Nat.lt_or_ge a.block w.heap.size with h1 | h1
  · exact h1
  · exact absurd rfl (Kd.far_C 0 h h1 a ha hm)
def two37 (xs : List S46) : List Value := xs.flatMap fun x => [.int .i64 x.f0, .int .i64 x.f1]
theorem two37_snoc (xs : List S46) (x : S46) : two37 (xs ++ [x]) = two37 xs ++ [.int .i64 x.f0, .int .i64 x.f1] := by simp [two37]
theorem R_two37 {W : World} {base : Nat} {v : Value} : ∀ {xs : List S46}, W.ownsRow base 46 2 v xs.length (two37 xs) → Kd.R k46 46 W base (fun _ => True) v xs := by
  intro xs h
  refine ⟨fun _ _ => trivial, two37 xs, h, ?_⟩
  clear h
  suffices H : ∀ ys : List S46, Reps (k46.M W base fun k => True ∧ some k ≠ v.ownBlock) k46.sz ys (two37 ys) from H xs
  intro ys
  generalize hr : ys.reverse = zs
  induction zs generalizing ys with
  | nil => have : ys = [] := by simpa using hr
           subst this; exact Reps.none _ _
  | cons z zs ih =>
    have e : ys = zs.reverse ++ [z] := by rw [← List.reverse_cons, ← hr, List.reverse_reverse]
    subst e
    rw [two37_snoc]
    exact Reps.snoc (ih _ (by simp)) (k46_mkM _ _ _ z) rfl
def half5 (l : List Int) : Nat := orAll 0 ((l.take (l.length / 2)).map Int.toNat)
def togB (l : List Int) (p : Nat × Nat) : Bool := decide (half5 (formOf l.length p.1 p.2 l) ||| half5 l = 2 ^ l.length - 1)
def withTo (l : List Int) (ps : List (Nat × Nat)) : List S46 := (ps.filter (togB l)).map fun p => ⟨(p.1 : Int), (p.2 : Int)⟩
def rows_With.f (l0 : List Int) : Option (List S46 × Int) := if IsRow l0 ∧ l0.length % 2 = 0 then some (withTo l0 (formPairs l0.length), 0) else some ([], 2)
theorem withTo_snoc (l : List Int) (ps : List (Nat × Nat)) (p : Nat × Nat) : withTo l (ps ++ [p]) = withTo l ps ++ if togB l p = true then [⟨(p.1 : Int), (p.2 : Int)⟩] else [] := by
  unfold withTo; rw [List.filter_append, List.map_append]
  cases h : togB l p <;> simp [h]
theorem half_loop (n : Nat) (hn : n ≤ 62) (l : List Int) (hl : l.length < 1000) (hr : ∀ x ∈ l, 0 ≤ x ∧ x < n) : ∀ (xs pre : List Int) (s : Nat), l = pre ++ xs → s < 2 ^ n →
    Ev (fun k => rows_half.l0 k (s : Int) l (l.length : Int) (pre.length : Int)) ((orAll s (xs.map Int.toNat) : Nat) : Int) := by
  intro xs
  induction xs with
  | nil =>
    intro pre s h0 hs
    refine Ev.succ ?_
    simp only [rows_half.l0, if_neg (mid_end h0)]
    exact Ev.some _
  | cons x xs ih =>
    intro pre s h0 hs
    have hx := hr x (by rw [h0]; simp)
    obtain ⟨m, rfl⟩ := Int.eq_ofNat_of_zero_le hx.1
    have hp2 := two_pow_lt63 (x := n) (by omega)
    have hm2 : 2 ^ m < 2 ^ n := Nat.pow_lt_pow_right (by omega) (by omega)
    have hs2 : s ||| 2 ^ m < 2 ^ n := Nat.or_lt_two_pow hs hm2
    refine Ev.succ ?_
    simp only [rows_half.l0, if_pos (mid_lt h0), if_pos (show (0 : Int) ≤ (pre.length : Int) by omega), mid_rd h0, mid_next h0 (by omega), if_pos (show (0 : Int) ≤ (m : Int) by omega), shl1_i64 (x := m) (by omega), or_i64 (a := s) (b := 2 ^ m) (by omega) (by omega), List.map_cons, Int.toNat_natCast, orAll_cons]
    exact ih (pre ++ [(m : Int)]) (s ||| 2 ^ m) (mid_mv h0) hs2
theorem half_ev (n : Nat) (hn : n ≤ 62) (l : List Int) (hl : l.length < 1000) (hr : ∀ x ∈ l, 0 ≤ x ∧ x < n) : Ev (fun k => rows_half.f k l) ((half5 l : Nat) : Int) := by
  unfold rows_half.f
  have hw : wrap64 ((l.length : Int) / 2) = ((l.length / 2 : Nat) : Int) := by rw [wrap_id (by omega) (by omega)]; omega
  simp only [hw, if_pos (show (0 : Int) ≤ ((l.length / 2 : Nat) : Int) by omega), if_pos (show ((l.length / 2 : Nat) : Int) ≤ (l.length : Int) by omega), Int.toNat_natCast, Option.bind_some]
  exact half_loop n hn (l.take (l.length / 2)) (by rw [List.length_take]; omega) (fun x hx => hr x (List.mem_of_mem_take hx)) _ [] 0 rfl (Nat.two_pow_pos _)
theorem formOf_range {n : Nat} (hn : 1 ≤ n) (kind k : Int) (l : List Int) : ∀ x ∈ formOf n kind k l, 0 ≤ x ∧ x < n := by
  intro x hx
  have : x ∈ l.map (toneOf n kind k) := by
    unfold formOf at hx
    split at hx
    · exact List.mem_reverse.1 hx
    · exact hx
  obtain ⟨y, _, rfl⟩ := List.mem_map.1 this
  exact ⟨Int.emod_nonneg _ (by omega), Int.emod_lt_of_pos _ (by omega)⟩
theorem half5_lt {n : Nat} {l : List Int} (hr : ∀ x ∈ l, 0 ≤ x ∧ x < n) : half5 l < 2 ^ n := by
  unfold half5
  refine orAll_lt _ (fun x hx => ?_) 0 (Nat.two_pow_pos _)
  obtain ⟨y, hy, rfl⟩ := List.mem_map.1 hx
  have := hr y (List.mem_of_mem_take hy)
  omega
theorem with_step {w W w1 : World} {S q n m : Nat} {a v v' : Value} {o : Obj} {xs ys : List Value} (ho : o.isCells = true) (y0 : BoxAt W S [a]) (y3 : Below S w W) (y1 : BoxAt W (S + 1) [v]) (y2 : W.ownsRow (S + 2) 46 2 v n xs)
    (hown : w1.ownsRow (S + 2) 46 2 v' m ys) (hg : ((W.drewN q).alloc o).grownBy w1 v.ownBlock) :
    BoxAt w1 (S + 1) [v] ∧ KeepsOthers W (w1.setCell ⟨S + 1, 0, none⟩ v') ∧ KpC (fun b o => b = S + 1 ∨ (S + 2 ≤ b ∧ ∃ cs, o = .cells cs 46)) W (w1.setCell ⟨S + 1, 0, none⟩ v') ∧ BoxAt (w1.setCell ⟨S + 1, 0, none⟩ v') S [a] ∧ Below S w (w1.setCell ⟨S + 1, 0, none⟩ v') ∧
      BoxAt (w1.setCell ⟨S + 1, 0, none⟩ v') (S + 1) [v'] ∧ (w1.setCell ⟨S + 1, 0, none⟩ v').ownsRow (S + 2) 46 2 v' m ys := by
  have g0 : W.grownBy ((W.drewN q).alloc o) none := grown_of_below (below_alloc (pw_below_drewN (Below.refl _ W) q) _) none
  have hge : ∀ k, v.ownBlock = some k → S + 2 ≤ k := fun k e => (y2.lt k e).1
  have hob : ∀ k p, v.ownBlock = some k → W.heap[k]? = some p → ∃ cs, p = .cells cs 46 := by
    intro k p e hp
    rcases y2.2 with ⟨rfl, _⟩ | ⟨g, cap, cur, rfl, _, hgg, _⟩
    · cases e
    · cases e; rw [hgg] at hp; cases hp; exact ⟨_, rfl⟩
  have hblk : ∀ b, b < W.heap.size → v.ownBlock ≠ some b → w1.heap[b]? = W.heap[b]? := fun b hb hne => (hg.block b (by have := g0.size; omega) (fun e => hne e.symm)).trans (g0.block b hb (by simp))
  have hsz : W.heap.size ≤ w1.heap.size := by have := g0.size; have := hg.size; omega
  have z0 : BoxAt w1 S [a] := y0.heap (hblk S y0.lt (fun e => by have := hge _ e; omega))
  have z1 : BoxAt w1 (S + 1) [v] := y1.heap (hblk _ y1.lt (fun e => by have := hge _ e; omega))
  have hkc : KpC (fun b o => b = S + 1 ∨ (S + 2 ≤ b ∧ ∃ cs, o = .cells cs 46)) W w1 := ⟨hsz, fun b p hx hp hc => by
    refine (hblk b (Array.getElem?_eq_some_iff.1 hp).1 (fun e => hx (.inr ⟨hge b e, hob b p e hp⟩))).trans hp⟩
  have hko : KeepsOthers W w1 := (KeepsOthers.of_grownBy g0 (fun j o e => by cases e)).trans (KeepsOthers.of_grownBy hg (fun j p e hp => by
    rcases y2.2 with ⟨rfl, _⟩ | ⟨g, cap, cur, rfl, _, hgg, _⟩
    · cases e
    · cases e
      have : ((W.drewN q).alloc o).heap[g]? = some (.cells cur 46) := (g0.block g (Array.getElem?_eq_some_iff.1 hgg).1 (by simp)).trans hgg
      have hp' : ((W.drewN q).alloc o).heap[g]? = some p := hp
      rw [this] at hp'; cases hp'; rfl))
  refine ⟨z1, hko.trans (KeepsOthers.setCell _ _ _), hkc.trans ⟨by simp [World.setCell], fun b p hx hp hc => (Below.heap_setCell _ _ _ _ (fun e => hx (.inl e))).trans hp⟩, z0.far (by simp) _, ?_, z1.put1 _, owns_far hown (by simp) _⟩
  refine Below.setCell (p := ⟨S + 1, 0, none⟩) ?_ (by simp) _
  exact (y3.grown g0 (by have := y0.lt; omega) (fun k e => by cases e)).grown hg (by have := y0.lt; have := g0.size; omega) (fun k e => by have := hge k e; omega)
theorem tog_nums {l : List Int} (hr : IsRow l) (x : Nat × Nat) : ∃ ta tb o p f : Nat, half5 (formOf l.length x.1 x.2 l) = ta ∧ half5 l = tb ∧ Go.bits .or .i64 (ta : Int) (tb : Int) = (o : Int) ∧ IntKind.i64.wrap ((2 : Int) ^ l.length) = (p : Int) ∧ wrap64 ((2 : Int) ^ l.length) = (p : Int) ∧ IntKind.i64.wrap ((p : Int) - 1) = (f : Int) ∧ wrap64 ((p : Int) - 1) = (f : Int) ∧ l.length ≤ 64 ∧ togB l x = decide (o = f) := by
  have h1 := hr.1; have h2 := hr.2.1
  have o1 := half5_lt (formOf_range (n := l.length) (by omega) x.1 x.2 l)
  have o2 := half5_lt hr.2.2.1
  have hp63 := two_pow_lt63 (x := l.length) (by omega)
  have hp0 := Nat.two_pow_pos l.length
  have h63 : (2 : Nat) ^ 63 = 9223372036854775808 := by decide
  refine ⟨_, _, _, 2 ^ l.length, 2 ^ l.length - 1, rfl, rfl, or_i64 (by omega) (by omega), ?_, ?_, ?_, ?_, by omega, rfl⟩
  · rw [← pow_cast]; generalize 2 ^ l.length = P at *; rw [i64_id (by omega) (by omega)]
  · rw [← pow_cast]; generalize 2 ^ l.length = P at *; rw [wrap_id (by omega) (by omega)]
  · generalize 2 ^ l.length = P at *; rw [i64_id (by omega) (by omega)]; omega
  · generalize 2 ^ l.length = P at *; rw [wrap_id (by omega) (by omega)]; omega
set_option maxHeartbeats 4000000 in
set_option maxRecDepth 100000 in
theorem rows_With.calls (A0 : Option Addr) (c0 : Nat) (l0 : List Int) (r1 : List S46) (r2 : Int) (w : World) (hr0 : Kd.C (Kd.int .i64) w A0 l0.length l0) (hc0 : l0.length ≤ c0) (h : rows_With.f l0 = some (r1, r2)) :
    Calls Try.prog 15 #[.slice A0 l0.length c0] w fun e w' => ∃ v0_ : Value, e = .returned (.tuple #[v0_, .int .i64 r2]) ∧ Kd.R k46 46 w' w.heap.size (fun _ => True) v0_ r1 ∧ Below w.heap.size w w' := by
  have HR0 := Aside0.mk hr0
  have HC0 := Aside0.mk hc0
  obtain ⟨kv0, hv0⟩ := Ev.rounds (g := fun k => rows_row_valid.f k l0) (valid_ev l0)
  have HV0 := Aside0.mk (fun W (hb : Below w.heap.size w W) => rows_row_valid.calls kv0 A0 c0 l0 _ W (Kd.C_below hr0 hb) hc0 hv0)
  have H := Aside0.mk h
  clear hr0 hc0 hv0 h
  refine (callsIn_wide (n := 3)).1 ?_
  refine callsIn_of_wp_marks Try.func15 rfl trivial ?_ rfl
  simp only [Try.ntmps15, List.size_toArray, List.length_cons, List.length_nil, Nat.reduceAdd, Nat.reduceSub, Array.replicate_succ, Array.replicate_zero, List.push_toArray, List.append_toArray, List.nil_append, List.cons_append]
  obtain ⟨W0, hW0⟩ : ∃ W0, w.alloc (.cells #[.slice A0 l0.length c0] 27) = W0 := ⟨_, rfl⟩
  have HB0 : Aside0 (Below w.heap.size w W0) := ⟨by rw [← hW0]; exact below_alloc (Below.refl _ _) _⟩
  have HX0 : Aside0 (BoxAt W0 w.heap.size [.slice A0 l0.length c0] ∧ W0.heap.size = w.heap.size + 1) := ⟨by rw [← hW0]; exact ⟨BoxAt.new w _ _, by simp⟩⟩
  have q0 := HX0.out.1.cell 0 _ rfl
  have zW0 := HX0.out.2
  by_cases hr0 : IsRow l0
  · by_cases hev : l0.length % 2 = 0
    · have e0 : decide (IsRow l0) = true := decide_eq_true hr0
      rw [e0] at HV0
      have hne : ((l0.length : Int) % 2 == 1) = false := beq_eq_false_iff_ne.2 (by omega)
      have hne2 : (Int.tmod (l0.length : Int) 2 == 1) = false := by rw [Int.tmod_eq_emod_of_nonneg (by omega)]; exact hne
      gi_wp2_with (first | (refine ⟨trivial, ?_⟩; (try rw [hW0]); gi_at_call 38; (with_reducible refine (callsIn_wide.2 (HV0.out _ HB0.out)).mono ?_); rintro e w' ⟨rfl, ⟨q, rfl⟩⟩; clear HV0 hW0) | (refine ⟨trivial, ?_⟩; gi_at_call 39; (with_reducible refine (callsIn_wide.2 (whole_calls _ _ _ _)).mono ?_); rintro e w' ⟨rfl, hg⟩))
      have hz1 : ((W0.drewN q).alloc (.cells #[.slice none 0 0] 38)).heap.size = w.heap.size + 2 := by rw [World.size_alloc]; exact congrArg (· + 1) zW0
      have hg0 : W0.grownBy ((W0.drewN q).alloc (.cells #[.slice none 0 0] 38)) none := grown_of_below (below_alloc (pw_below_drewN (Below.refl _ W0) q) _) none
      have x1' : BoxAt ((W0.drewN q).alloc (.cells #[.slice none 0 0] 38)) (w.heap.size + 1) [.slice none 0 0] := by
        have h := BoxAt.new (W0.drewN q) [.slice none 0 0] 38
        rw [show (W0.drewN q).heap.size = w.heap.size + 1 from zW0] at h
        exact h
      have x0 := (HX0.out.1.grown hg0).grown hg
      have x1 := x1'.grown hg
      have hsz : w.heap.size + 2 ≤ w'.heap.size := by have := hg.size; omega
      have hbw : Below w.heap.size w w' := (HB0.out.grown hg0 HB0.out.size (fun k e => by cases e)).grown hg (by omega) (fun k e => by cases e)
      have HX := Aside0.mk (And.intro x0 x1)
      have HBW := Aside0.mk hbw
      have HSZ := Aside0.mk hsz
      have hC : ∀ W, KpC (fun b o => b = w.heap.size + 1 ∨ (w.heap.size + 2 ≤ b ∧ ∃ cs, o = .cells cs 46)) w' W → Kd.C (Kd.int .i64) W A0 l0.length l0 := fun W hk => C_kpc (Kd.C_below HR0.out hbw) hk (fun a o ha hm hb => by
        have := C_lt HR0.out a ha hm
        rcases hb with e | e
        · omega
        · have := e.1; omega)
      clear hg hg0 hz1 x1' x0 x1 hbw hsz q0 zW0 hne hne2
      refine range_fs rfl (by omega) (gf := 40) (fs := #[.agg #[.int .i64 (l0.length : Int), .slice A0 l0.length c0]]) (lb := #[]) rfl trivial (enters_of Try.func40 (by kernel_rfl) rfl)
        (forms_seq (fun b o => b = w.heap.size + 1 ∨ (w.heap.size + 2 ≤ b ∧ ∃ cs, o = .cells cs 46)) l0.length (by have := hr0.1; omega) (by have := hr0.2.1; omega) A0 c0 l0 (by have := hr0.2.1; omega) (row_small hr0) HC0.out w' (fun b cs hb => by
          have := HSZ.out
          rcases hb with e | ⟨_, cs', e⟩
          · omega
          · cases e) hC)
        (fun x W vals hE => by obtain ⟨A, c, rfl, _⟩ := hE; rfl)
        (fun A B h => KeepsOthers.of_grownBy h (fun j o e => by cases e))
        (fun h k => h.trans k)
        (fun W l o o' hl ho hc => KpC.putObj W ho hc)
        (fun pre W => (BoxAt W w.heap.size [.slice A0 l0.length c0] ∧ Below w.heap.size w W ∧ ∃ A c, BoxAt W (w.heap.size + 1) [.slice A (withTo l0 pre).length c] ∧ W.ownsRow (w.heap.size + 2) 46 2 (.slice A (withTo l0 pre).length c) (withTo l0 pre).length (two37 (withTo l0 pre))))
        (fun _ _ _ => False)
        ?hI (fun _ _ _ _ _ h _ _ => h) ?hIs (fun _ _ _ _ h _ => h) ?h0
        (fun x a' W => ∃ Bx A c, a' = { tmps := #[.slice A0 l0.length c0, .pointer (some ⟨w.heap.size, 0, none⟩), .slice none 0 0, .int .i64 0, .slice A0 l0.length c0, .pointer (some ⟨w.heap.size + 1, 0, none⟩), .pointer (some ⟨Bx, 0, none⟩), .slice A0 l0.length c0, .slice A0 l0.length c0, .bool true, .bool false, .bool false, .slice A0 l0.length c0, .int .i64 l0.length, .int .i64 ((l0.length : Int) % 2), .bool false, .bool false, .slice A0 l0.length c0, .agg #[.int .i64 l0.length, .slice A0 l0.length c0], .func (.func 40) #[.agg #[.int .i64 l0.length, .slice A0 l0.length c0]] #[], .agg #[.int .i64 x.1, .int .i64 x.2, .slice A (formOf l0.length x.1 x.2 l0).length c], undef, undef, undef, undef, undef, undef, undef, undef, undef, undef, undef, undef, undef, undef, undef, undef, undef], defers := [] } ∧
          BoxAt W Bx [.int .i64 x.1, .int .i64 x.2, .slice A (formOf l0.length x.1 x.2 l0).length c] ∧ Kd.C (Kd.int .i64) W A (formOf l0.length x.1 x.2 l0).length (formOf l0.length x.1 x.2 l0) ∧ (formOf l0.length x.1 x.2 l0).length ≤ c)
        ?hAx ?assign ?body ?done (fun _ _ _ _ _ _ _ h _ => h.elim)
      case hI =>
        rintro s A B row ⟨y0, y3, A1, c1, y1, y2⟩ hg hr
        exact ⟨y0.own hg (fun r e => (hr r e).2), y3.grown hg y3.size (fun k e => by have := (hr k e).1; have := HBW.out.size; omega), A1, c1, y1.own hg (fun r e => (hr r e).2), owns_own y2 hg (fun r e => (hr r e).2)⟩
      case hIs =>
        rintro s A B ⟨y0, y3, A1, c1, y1, y2⟩ hg
        exact ⟨y0.grown hg, y3.grown hg y3.size (fun k e => by cases e), A1, c1, y1.grown hg, owns_own y2 hg (fun r e => by cases e)⟩
      case h0 => exact ⟨HX.out.1, HBW.out, none, 0, HX.out.2, World.ownsRow_nil _ _ _ _⟩
      case hAx =>
        rintro x a' s A B row ⟨Bx, A', c, e, hb, hC, hl⟩ hg hr
        exact ⟨Bx, A', c, e, hb.own hg (fun r e => (hr r e).2), C_kpc hC (own_kpc hg hr) (fun _ _ _ _ h => h), hl⟩
      case assign =>
        rintro l pre x vals W K hI ⟨A, c, rfl, hCv, hlv⟩ hK
        have HK := Aside0.mk hK
        have HI := Aside0.mk hI
        have HCV := Aside0.mk hCv
        have HLV := Aside0.mk hlv
        clear hK hI hCv hlv hC
        gi_wp2
        have g1 : W.grownBy (W.alloc (.cells #[.int .i64 (x.1 : Int), .int .i64 (x.2 : Int), .slice A (formOf l0.length x.1 x.2 l0).length c] 71)) none := World.grownBy_alloc W _ none
        obtain ⟨y0, y3, A1, c1, y1, y2⟩ := HI.out
        exact HK.out _ _ (KeepsOthers.of_grownBy g1 (fun j o e => by cases e)) (KpC.of_grown g1)
          ⟨y0.grown g1, y3.grown g1 y3.size (fun k e => by cases e), A1, c1, y1.grown g1, owns_own y2 g1 (fun r e => by cases e)⟩
          ⟨W.heap.size, A, c, rfl, BoxAt.new W _ _, C_kpc HCV.out (KpC.of_grown (X := fun _ _ => False) g1) (fun _ _ _ _ h => h), HLV.out⟩
      case body =>
        rintro l pre x rest a' W hlw hloop hx ⟨y0, y3, A1, c1, y1, y2⟩ ⟨Bx, A, c, rfl, hb, hCx, hlx⟩
        have hfl : (formOf l0.length x.1 x.2 l0).length = l0.length := by unfold formOf; split <;> simp
        have hn10 := hr0.2.1
        have hn2 := hr0.1
        obtain ⟨k1, hk1⟩ := Ev.rounds (g := fun k => rows_half.f k (formOf l0.length x.1 x.2 l0)) (half_ev l0.length (by omega) _ (by omega) (formOf_range (by omega) _ _ _))
        obtain ⟨k2, hk2⟩ := Ev.rounds (g := fun k => rows_half.f k l0) (half_ev l0.length (by omega) _ (by omega) hr0.2.2.1)
        have HF1 := Aside0.mk (fun p => rows_half.calls k1 A c _ _ (W.drewN p) hCx hlx hk1)
        have HF2 := Aside0.mk (fun p => rows_half.calls k2 A0 c0 l0 _ (W.drewN p) (Kd.C_below HR0.out (pw_below_drewN y3 p)) HC0.out hk2)
        obtain ⟨ta, tb, o, p, f, hta, htb, e1, e2, e3, e4, e5, hn, e6⟩ := tog_nums hr0 x
        rw [hta] at HF1
        rw [htb] at HF2
        have b2 := hb.cell 2 _ rfl
        have b0 := hb.cell 0 _ rfl
        have b1 := hb.cell 1 _ rfl
        have s0 := y0.cell 0 _ rfl
        have u0 := y1.cell 0 _ rfl
        have uf := y1.frozen 0
        have HY := Aside0.mk (And.intro y0 (And.intro y3 (And.intro y1 y2)))
        have HB := Aside0.mk hb
        have HHH := Aside0.mk (And.intro hCx hlx)
        have HE6 := Aside0.mk e6
        have HLEN : Aside0 ((withTo l0 pre).length < 100) := ⟨by
          have h1 := congrArg List.length hx
          have h2 : (formPairs l0.length).length = 4 * l0.length := by simp [formPairs, pairsTo, List.range_succ]; omega
          have h3 : (withTo l0 pre).length ≤ pre.length := by unfold withTo; rw [List.length_map]; exact List.length_filter_le _ _
          rw [h2] at h1; simp at h1; omega⟩
        clear hfl hn10 hn2 hk1 hk2 hta htb y0 y3 y1 y2 hb hCx hlx hC e6 hx
        gi_wp2
        refine region_quiet_lit (by kernel_rfl) (by kernel_rfl) ?_
        repeat (refine wpQuietIn_step (fun _ _ _ _ => trivial) (fun K hK => ?_); go_simp; refine hK _ ?_; clear hK K)
        refine wpQuietIn_step (fun _ _ _ _ => trivial) (fun K hK => ?_)
        go_simp
        refine ⟨_, fun p => CallsIn.quiet_of (CallsIn.inRound l (callsIn_wide.2 ((HF1.out p).mono (fun e w' h => ⟨h.1, h.2.out⟩)))), hK _ ?_⟩
        clear hK K
        repeat (refine wpQuietIn_step (fun _ _ _ _ => trivial) (fun K hK => ?_); go_simp; refine hK _ ?_; clear hK K)
        refine wpQuietIn_step (fun _ _ _ _ => trivial) (fun K hK => ?_)
        go_simp
        refine ⟨_, fun p => CallsIn.quiet_of (CallsIn.inRound l (callsIn_wide.2 ((HF2.out p).mono (fun e w' h => ⟨h.1, h.2.out⟩)))), hK _ ?_⟩
        clear hK K
        repeat (refine wpQuietIn_step (fun _ _ _ _ => trivial) (fun K hK => ?_); go_simp; refine hK _ ?_; clear hK K)
        refine wpQuietIn_nil ?_
        rintro _ ⟨q, rfl⟩
        clear HF1 HF2 b2 s0 e1 e2 e3 e4 e5 hn
        by_cases hof : o = f
        · have heq : ((o : Int) == (f : Int)) = true := beq_iff_eq.2 (by omega)
          have HT := Aside0.mk (HE6.out.trans (decide_eq_true hof))
          clear hof
          obtain ⟨i0, hi, hz0, hz1, hz2⟩ := info_parts info46
          have HROW := Aside0.mk (own_alloc (pw_own_drewN HY.out.2.2.2 q) (.cells #[.int .i64 (x.1 : Int), .int .i64 (x.2 : Int)] 46))
          have HNC := Aside0.mk (BoxAt.new (W.drewN q) [.int .i64 (x.1 : Int), .int .i64 (x.2 : Int)] 46)
          gi_wp2_with (gi_at_builtin; refine wpListIn_append_own _ rfl (.tmp 32) (.tmp 35) 38 rfl (w.heap.size + 2) 46 i0 _ 2 16 Try.underlying38 hi hz0 hz1 hz2 rfl (by decide) _ _ _ rfl HROW.out ⟨W.heap.size, 0, none⟩ 1 1 [.int .i64 (x.1 : Int), .int .i64 (x.2 : Int)] rfl rfl (fun j u hu => by rw [add_plain]; exact HNC.out.cell j u hu) (by simp [Value.oneCell']) ?ab ?ab2 ?ab3 ?_; (case ab => have := HLEN.out; simp only [maxLen]; omega); (case ab2 => have := HLEN.out; omega); (case ab3 => have := HY.out.2.2.1.lt; simp only [World.size_alloc, World.drewN]; omega); intro v' w1 hown' hgrow hnil; obtain ⟨A9, c9, e9⟩ := own_slice hown'; subst e9; have hst := with_step (q := q) rfl HY.out.1 HY.out.2.1 HY.out.2.2.1 HY.out.2.2.2 hown' hgrow; have t0 := hst.1.cell 0 _ rfl; have tf := hst.1.frozen 0; have HST := Aside0.mk hst; clear hown' hgrow hnil hst)
          obtain ⟨-, s1, s2, s3, s4, s5, s6⟩ := HST.out
          have hws := withTo_snoc l0 pre x
          rw [HT.out, if_pos rfl] at hws
          have hwl : (withTo l0 (pre ++ [x])).length = (withTo l0 pre).length + 1 := by rw [hws]; simp
          refine ⟨s1, s2, s3, s4, A9, c9, by rw [hwl]; exact s5, ?_⟩
          rw [hwl, hws, two37_snoc]
          exact s6
        · have heq : ((o : Int) == (f : Int)) = false := beq_eq_false_iff_ne.2 (by omega)
          have HT := Aside0.mk (HE6.out.trans (decide_eq_false hof))
          clear hof
          gi_wp2
          obtain ⟨y0, y3, y1, y2⟩ := HY.out
          have hws := withTo_snoc l0 pre x
          rw [HT.out] at hws
          simp only [Bool.false_eq_true, if_false, List.append_nil] at hws
          refine ⟨⟨Nat.le_refl _, fun _ _ h _ => h⟩, ⟨Nat.le_refl _, fun _ _ _ h _ => h⟩, y0.drewN q, pw_below_drewN y3 q, A1, c1, ?_, ?_⟩
          · rw [hws]; exact y1.drewN q
          · rw [hws]; exact pw_own_drewN y2 q
      case done =>
        rintro D W hD ⟨y0, y3, A1, c1, y1, y2⟩ hK
        have t0 := y1.cell 0 _ rfl
        have HY := Aside0.mk (And.intro y3 (And.intro y1 y2))
        have HK := Aside0.mk hK
        clear y0 y3 y1 y2 hK hC
        gi_wp2
        refine ⟨by simp, .inl ⟨_, _, rfl, run_takeDeferred HK.out, ?_⟩⟩
        obtain ⟨y3, y1, y2⟩ := HY.out
        have h := H.out
        unfold rows_With.f at h
        rw [if_pos ⟨hr0, hev⟩] at h
        simp only [Option.some.injEq, Prod.mk.injEq] at h
        obtain ⟨rfl, rfl⟩ := h
        have hgp := grownBy_putObj' W D (.deferred none)
        have y2' := owns_own y2 hgp (fun r e => by cases e; exact ⟨_, HK.out, rfl⟩)
        refine ⟨_, results_list (rs := [.tmp 2, .tmp 3]) rfl (by simp) (.tmp (.tmp .nil)), _, rfl, R_two37 (own_less y2' (by omega)), ?_⟩
        exact y3.grown hgp y3.size (fun k e => by cases e; have := HBW.out.size; omega)
    · have e0 : decide (IsRow l0) = true := decide_eq_true hr0
      rw [e0] at HV0
      have hne : ((l0.length : Int) % 2 == 1) = true := beq_iff_eq.2 (by omega)
      gi_wp2_with (refine ⟨trivial, ?_⟩; (try rw [hW0]); gi_at_call 38; (with_reducible refine (callsIn_wide.2 (HV0.out _ HB0.out)).mono ?_); rintro e w' ⟨rfl, ⟨q, rfl⟩⟩; clear HV0 hW0)
      have h := H.out
      unfold rows_With.f at h
      rw [if_neg (fun hh => hev hh.2)] at h
      simp only [Option.some.injEq, Prod.mk.injEq] at h
      obtain ⟨rfl, rfl⟩ := h
      exact ⟨_, results_list (rs := [.tmp 2, .tmp 3]) rfl (by simp) (.tmp (.tmp .nil)), _, rfl, Kd.R_nil _ _ _ _ _, pw_below_drewN HB0.out q⟩
  · have e0 : decide (IsRow l0) = false := decide_eq_false hr0
    rw [e0] at HV0
    gi_wp2_with (refine ⟨trivial, ?_⟩; (try rw [hW0]); gi_at_call 38; (with_reducible refine (callsIn_wide.2 (HV0.out _ HB0.out)).mono ?_); rintro e w' ⟨rfl, ⟨q, rfl⟩⟩; clear HV0 hW0)
    have h := H.out
    unfold rows_With.f at h
    rw [if_neg (fun hh => hr0 hh.1)] at h
    simp only [Option.some.injEq, Prod.mk.injEq] at h
    obtain ⟨rfl, rfl⟩ := h
    exact ⟨_, results_list (rs := [.tmp 2, .tmp 3]) rfl (by simp) (.tmp (.tmp .nil)), _, rfl, Kd.R_nil _ _ _ _ _, pw_below_drewN HB0.out q⟩

end Go.Proofs.Ytknchioabngbiaa.P
namespace Go.Proofs.Ytknchioabngbiaa.P
open Go.RowKit Go.Proofs.YtknchioabngbiaaW.PrintWords Go.Proofs.YtknchioabngbiaaW.PrintLast Go.Proofs.YtknchioabngbiaaW.PrintMore
attribute [local go_sem] max2_int min2_int max_two min_two max_three min_three max_four min_four   -- for this text's walks alone
set_option linter.unusedVariables false
set_option linter.unusedSimpArgs false

theorem eqA46 (d : Nat) (w : World) (x0 y0 : Int) (x1 y1 : Int) :
    (Op.equalIn (d + 2) 46 (.agg #[.int .i64 x0, .int .i64 x1]) (.agg #[.int .i64 y0, .int .i64 y1])).run Try.prog w = .ok (x0 == y0 && (x1 == y1)) w := by
  have hu : (underlying 46).run Try.prog w = .ok (.array 2 3) w := run_underlying Try.underlying46 w
  have e0 : (Op.equalIn (d + 1) 3 (.int .i64 x0) (.int .i64 y0)).run Try.prog w = .ok (x0 == y0) w := by go_simp; try rfl
  have e1 : (Op.equalIn (d + 1) 3 (.int .i64 x1) (.int .i64 y1)).run Try.prog w = .ok (x1 == y1) w := by go_simp; try rfl
  unfold Op.equalIn
  simp only [Sem.run_bind, hu]
  go_simp
  simp only [show List.range' 0 2 = [0, 1] from rfl, List.forIn_cons, List.forIn_nil]
  cases h0 : x0 == y0 <;> cases h1 : x1 == y1 <;> simp only [h0, h1] at e0 e1 <;> (go_simp; try simp [e0, e1])
end Go.Proofs.Ytknchioabngbiaa.P
namespace Go.Proofs.Ytknchioabngbiaa.P
open Go.RowKit Go.Proofs.YtknchioabngbiaaW.PrintWords Go.Proofs.YtknchioabngbiaaW.PrintLast Go.Proofs.YtknchioabngbiaaW.PrintMore
attribute [local go_sem] max2_int min2_int max_two min_two max_three min_three max_four min_four   -- for this text's walks alone
set_option linter.unusedVariables false
set_option linter.unusedSimpArgs false

attribute [local go_sem high] eqA46
/-! ### slices_Index_2_int_2_int: function 45 -/
def slices_Index_2_int_2_int.l0 : Nat → List (S46) → Int → Int → Int → Int → Option (Int)
  | 0, _, _, _, _, _ => none
  | k + 1, x0, x7, x8, x1002000, x1002001 => if x8 < x7 then (if 0 ≤ x8 then (if x8 < (x0.length : Int) then (if (x1002000 == ((rd_T46 x0 x8).f0) && (x1002001 == ((rd_T46 x0 x8).f1))) = true then (some x8) else (slices_Index_2_int_2_int.l0 k x0 x7 (wrap64 (x8 + 1)) x1002000 x1002001)) else (none)) else (none)) else (some (-1))
def slices_Index_2_int_2_int.f (k : Nat) (l0 : List (S46)) (a1_0 : Int) (a1_1 : Int) : Option (Int) := slices_Index_2_int_2_int.l0 k l0 (l0.length : Int) 0 a1_0 a1_1
theorem slices_Index_2_int_2_int.mono_l : ∀ k, (∀ y0 y1 y2 y3 y4, LeO (slices_Index_2_int_2_int.l0 k y0 y1 y2 y3 y4) (slices_Index_2_int_2_int.l0 (k + 1) y0 y1 y2 y3 y4))
  | 0 => fun _ _ _ _ _ r h => by simp [slices_Index_2_int_2_int.l0] at h
  | k + 1 => by
    have ih0 := slices_Index_2_int_2_int.mono_l k
    · intro y0 y1 y2 y3 y4
      unfold slices_Index_2_int_2_int.l0
      repeat' first
      | (with_reducible exact ih0 _ _ _ _ _)
      | (with_reducible exact LeO.refl _)
      | (with_reducible exact LeO.none _)
      | (with_reducible refine LeO.ite ?_ ?_)
      | (with_reducible refine LeO.bind ?_ (fun _ => ?_))
      | exact ih0 _ _ _ _ _
      | exact LeO.none _
      | refine LeO.ite ?_ ?_
      | refine LeO.bind ?_ (fun _ => ?_)
theorem slices_Index_2_int_2_int.mono : ∀ a0 a1 a2 k, LeO (slices_Index_2_int_2_int.f k a0 a1 a2) (slices_Index_2_int_2_int.f (k + 1) a0 a1 a2) := by
  intro a0 a1 a2 k
  have ih0 := slices_Index_2_int_2_int.mono_l k
  unfold slices_Index_2_int_2_int.f
  repeat' first
      | (with_reducible exact ih0 _ _ _ _ _)
      | (with_reducible exact LeO.refl _)
      | (with_reducible exact LeO.none _)
      | (with_reducible refine LeO.ite ?_ ?_)
      | (with_reducible refine LeO.bind ?_ (fun _ => ?_))
      | exact ih0 _ _ _ _ _
      | exact LeO.none _
      | refine LeO.ite ?_ ?_
      | refine LeO.bind ?_ (fun _ => ?_)
set_option maxHeartbeats 8000000 in
set_option maxRecDepth 100000 in
theorem slices_Index_2_int_2_int.calls (k : Nat) (A0 : Option Addr) (c0 : Nat) (l0 : List (S46)) (a1_0 : Int) (a1_1 : Int) (r : Int) (w : World) (hr0 : Kd.C k46 w A0 l0.length l0) (hc0 : l0.length ≤ c0) (h : slices_Index_2_int_2_int.f k l0 a1_0 a1_1 = some r) :
    Calls Try.prog 45 #[.slice A0 l0.length c0, .agg #[.int .i64 a1_0, .int .i64 a1_1]] w fun e w' => e = .returned (.int .i64 r) ∧ Below w.heap.size w w' := by
  have hu46 := Try.underlying46
  have HR0 := Aside0.mk hr0
  have HC0 := Aside0.mk hc0
  clear hr0 hc0
  have HB := Aside0.mk (Below.refl w.heap.size w)
  have H : (slices_Index_2_int_2_int.l0 k l0 (l0.length : Int) 0 a1_0 a1_1) = some r := h
  clear h
  have H' := Aside0.mk H
  clear H
  go_enter Try.func45, Try.ntmps45
  go_wp2_with (first | ((with_reducible refine gate_dst (N := 3) rfl ?_); refine box_event ?hg (N := 3) ?hd (cs := #[.int .i64 a1_0, .int .i64 a1_1]) (t := 46) ?hr ?_; (case hd => rfl); (case hg => rfl); (case hr => first | (go_simp; done) | (go_simp; rfl)); intro gb1001 hg w3 hbox hb; have n0_ := Aside0.mk (below_step (by repeat (first | (with_reducible first | exact HB.out | apply below_alloc | apply pw_below_drewN | apply below_drew1) | exact HB.out)) hb); have n1_ := Aside0.mk (hbox); have n2_ := Aside0.mk ((by rw [hg]; exact (below_size (by repeat (first | (with_reducible first | exact HB.out | apply below_alloc | apply pw_below_drewN | apply below_drew1) | exact HB.out))) : w.heap.size ≤ gb1001)); have n3_ := Aside0.mk ((by rw [hg]; exact (below_size (by repeat (first | (with_reducible first | exact HB.out | apply below_alloc | apply pw_below_drewN | apply below_drew1) | exact HB.out))) : w.heap.size ≤ gb1001)); clear HB; have HB := n0_; have BK1001 := n1_; have GW1001 := n2_; have GE1001 := n3_; clear n0_ n1_ n2_ n3_; clear hb hbox hg))
  repeat (go_quiet (first | ((with_reducible refine gate_dst (N := 3) rfl ?_); refine box_event ?hg (N := 3) ?hd (cs := #[.int .i64 a1_0, .int .i64 a1_1]) (t := 46) ?hr ?_; (case hd => rfl); (case hg => rfl); (case hr => first | (go_simp; done) | (go_simp; rfl)); intro gb1001 hg w3 hbox hb; have n0_ := Aside0.mk (below_step (by repeat (first | (with_reducible first | exact HB.out | apply below_alloc | apply pw_below_drewN | apply below_drew1) | exact HB.out)) hb); have n1_ := Aside0.mk (hbox); have n2_ := Aside0.mk ((by rw [hg]; exact (below_size (by repeat (first | (with_reducible first | exact HB.out | apply below_alloc | apply pw_below_drewN | apply below_drew1) | exact HB.out))) : w.heap.size ≤ gb1001)); have n3_ := Aside0.mk ((by rw [hg]; exact (below_size (by repeat (first | (with_reducible first | exact HB.out | apply below_alloc | apply pw_below_drewN | apply below_drew1) | exact HB.out))) : w.heap.size ≤ gb1001)); clear HB; have HB := n0_; have BK1001 := n1_; have GW1001 := n2_; have GE1001 := n3_; clear n0_ n1_ n2_ n3_; clear hb hbox hg)); try go_wp2_with (first | ((with_reducible refine gate_dst (N := 3) rfl ?_); refine box_event ?hg (N := 3) ?hd (cs := #[.int .i64 a1_0, .int .i64 a1_1]) (t := 46) ?hr ?_; (case hd => rfl); (case hg => rfl); (case hr => first | (go_simp; done) | (go_simp; rfl)); intro gb1001 hg w3 hbox hb; have n0_ := Aside0.mk (below_step (by repeat (first | (with_reducible first | exact HB.out | apply below_alloc | apply pw_below_drewN | apply below_drew1) | exact HB.out)) hb); have n1_ := Aside0.mk (hbox); have n2_ := Aside0.mk ((by rw [hg]; exact (below_size (by repeat (first | (with_reducible first | exact HB.out | apply below_alloc | apply pw_below_drewN | apply below_drew1) | exact HB.out))) : w.heap.size ≤ gb1001)); have n3_ := Aside0.mk ((by rw [hg]; exact (below_size (by repeat (first | (with_reducible first | exact HB.out | apply below_alloc | apply pw_below_drewN | apply below_drew1) | exact HB.out))) : w.heap.size ≤ gb1001)); clear HB; have HB := n0_; have BK1001 := n1_; have GW1001 := n2_; have GE1001 := n3_; clear n0_ n1_ n2_ n3_; clear hb hbox hg)))
  go_loopg [8] k (fun kq v8 w' => ∃ (x8_1 : Int), v8 = .int .i64 x8_1 ∧ Aside0 (slices_Index_2_int_2_int.l0 kq l0 (l0.length : Int) x8_1 a1_0 a1_1 = some r) ∧ Aside0 (kq ≤ k) ∧ Aside0 (w'.heap[gb1001]? = some (.cells #[.int .i64 a1_0, .int .i64 a1_1] 46 (0, 0))) ∧ Aside0 (Below w.heap.size w w'))
  case atStart => exact ⟨(0), (by first | rfl | (simp; done) | (simp [*]; done)), H', ⟨Nat.le_refl _⟩, ⟨by (with_reducible repeat (first | refine blk_drewN ?_ _ | refine blk_drew ?_ | refine blk_alloc ?_ _)); exact BK1001.out⟩, ⟨by repeat (first | (with_reducible first | exact HB.out | apply below_alloc | apply pw_below_drewN | apply below_drew1 | refine below_set ?_ GE1001.out) | exact HB.out)⟩⟩
  case round =>
    clear H'
    try clear p2
    obtain ⟨x8_1, rfl, HA, HK1, BK1001, HB⟩ := hrel
    cases gk with
    | zero => exact absurd HA.out (by simp [slices_Index_2_int_2_int.l0])
    | succ k1 =>
      have H := HA.out
      clear HA
      simp only [slices_Index_2_int_2_int.l0] at H
      by_cases c4 : x8_1 < (l0.length : Int)
      · rw [if_pos c4] at H
        have c4b0 : decide (x8_1 < (l0.length : Int)) = true := decide_eq_true c4
        clear c4
        by_cases c5 : 0 ≤ x8_1
        · rw [if_pos c5] at H
          have c5b0 : decide (0 ≤ x8_1) = true := decide_eq_true c5
          clear c5
          by_cases c6 : x8_1 < (l0.length : Int)
          · rw [if_pos c6] at H
            have c6b0 : decide (x8_1 < (l0.length : Int)) = true := decide_eq_true c6
            clear c6
            by_cases c7 : (a1_0 == ((rd_T46 l0 x8_1).f0) && (a1_1 == ((rd_T46 l0 x8_1).f1))) = true
            · rw [if_pos c7] at H
              have c7b0 : (a1_0 == ((rd_T46 l0 x8_1).f0) && (a1_1 == ((rd_T46 l0 x8_1).f1))) = true := c7
              (try (have c7b1 : decide (a1_0 = ((rd_T46 l0 x8_1).f0) && (a1_1 == ((rd_T46 l0 x8_1).f1))) = true := by simpa using c7))
              (try (have c7b2 : (a1_0 == ((rd_T46 l0 x8_1).f0) && (a1_1 == ((rd_T46 l0 x8_1).f1))) = true := by simpa using c7))
              clear c7
              obtain rfl := Option.some.inj H
              have hcz8_0 : wr.cell? ⟨gb1001, 0, none⟩ = some (.int .i64 a1_0) := (blk_cell BK1001.out 0).trans rfl
              have hcz8_1 : wr.cell? ⟨gb1001, 1, none⟩ = some (.int .i64 a1_1) := (blk_cell BK1001.out 1).trans rfl
              have hfz8_0 := blk_frozen BK1001.out 0
              have hfz8_1 := blk_frozen BK1001.out 1
              have p1002 : 0 ≤ (x8_1 : Int) := of_decide_eq_true (by first | (with_reducible assumption) | assumption)
              have q1002 : x8_1 < (l0.length : Int) := of_decide_eq_true (by first | (with_reducible assumption) | assumption)
              obtain ⟨ad1002, e1002, hx1002_0, hx1002_1⟩ := at_T46 HR0.out x8_1 p1002 q1002
              cases e1002
              replace hx1002_0 := (HB.out.cell (World.block_lt_of_cell? w _ hx1002_0)).trans hx1002_0
              replace hx1002_1 := (HB.out.cell (World.block_lt_of_cell? w _ hx1002_1)).trans hx1002_1
              replace p1002 := eq_true p1002
              replace q1002 := eq_true q1002
              go_wp2
              repeat (go_quiet (fail); try go_wp2)
              go_ret
              exact ⟨by first | rfl | (simp [errW_none, errW_some] <;> rfl) | (simp [*, errW_none, errW_some] <;> rfl), by repeat (first | (with_reducible first | exact HB.out | apply below_alloc | apply pw_below_drewN | apply below_drew1 | refine below_set ?_ GE1001.out) | exact HB.out)⟩
            · rw [if_neg c7] at H
              have c7b0 : (a1_0 == ((rd_T46 l0 x8_1).f0) && (a1_1 == ((rd_T46 l0 x8_1).f1))) = false := by simpa using c7
              (try (have c7b1 : decide (a1_0 = ((rd_T46 l0 x8_1).f0) && (a1_1 == ((rd_T46 l0 x8_1).f1))) = false := by simpa using c7))
              (try (have c7b2 : (a1_0 == ((rd_T46 l0 x8_1).f0) && (a1_1 == ((rd_T46 l0 x8_1).f1))) = false := by simpa using c7))
              (try (have c7b3 : ¬ (a1_0 = ((rd_T46 l0 x8_1).f0) && (a1_1 == ((rd_T46 l0 x8_1).f1))) := by simpa using c7))
              clear c7
              have H' := Aside0.mk H
              clear H
              have hcz9_0 : wr.cell? ⟨gb1001, 0, none⟩ = some (.int .i64 a1_0) := (blk_cell BK1001.out 0).trans rfl
              have hcz9_1 : wr.cell? ⟨gb1001, 1, none⟩ = some (.int .i64 a1_1) := (blk_cell BK1001.out 1).trans rfl
              have hfz9_0 := blk_frozen BK1001.out 0
              have hfz9_1 := blk_frozen BK1001.out 1
              have p1002 : 0 ≤ (x8_1 : Int) := of_decide_eq_true (by first | (with_reducible assumption) | assumption)
              have q1002 : x8_1 < (l0.length : Int) := of_decide_eq_true (by first | (with_reducible assumption) | assumption)
              obtain ⟨ad1002, e1002, hx1002_0, hx1002_1⟩ := at_T46 HR0.out x8_1 p1002 q1002
              cases e1002
              replace hx1002_0 := (HB.out.cell (World.block_lt_of_cell? w _ hx1002_0)).trans hx1002_0
              replace hx1002_1 := (HB.out.cell (World.block_lt_of_cell? w _ hx1002_1)).trans hx1002_1
              replace p1002 := eq_true p1002
              replace q1002 := eq_true q1002
              go_wp2
              repeat (go_quiet (fail); try go_wp2)
              go_roundg k1
              case measure => have := HK1.out; omega
              case rel => exact ⟨(wrap64 (x8_1 + 1)), (by first | rfl | (simp; done) | (simp [*]; done)), H', ⟨by have := HK1.out; omega⟩, ⟨by (with_reducible repeat (first | refine blk_drewN ?_ _ | refine blk_drew ?_ | refine blk_alloc ?_ _)); exact BK1001.out⟩, ⟨by repeat (first | (with_reducible first | exact HB.out | apply below_alloc | apply pw_below_drewN | apply below_drew1 | refine below_set ?_ GE1001.out) | exact HB.out)⟩⟩
          · rw [if_neg c6] at H
            exact absurd H (by simp)
        · rw [if_neg c5] at H
          exact absurd H (by simp)
      · rw [if_neg c4] at H
        have c4b0 : decide (x8_1 < (l0.length : Int)) = false := decide_eq_false c4
        clear c4
        obtain rfl := Option.some.inj H
        go_wp2
        repeat (go_quiet (fail); try go_wp2)
        go_ret
        exact ⟨by first | rfl | (simp [errW_none, errW_some] <;> rfl) | (simp [*, errW_none, errW_some] <;> rfl), by repeat (first | (with_reducible first | exact HB.out | apply below_alloc | apply pw_below_drewN | apply below_drew1 | refine below_set ?_ GE1001.out) | exact HB.out)⟩

end Go.Proofs.Ytknchioabngbiaa.P
namespace Go.Proofs.Ytknchioabngbiaa.P
open Go.RowKit Go.Proofs.YtknchioabngbiaaW.PrintWords Go.Proofs.YtknchioabngbiaaW.PrintLast Go.Proofs.YtknchioabngbiaaW.PrintMore
attribute [local go_sem] max2_int min2_int max_two min_two max_three min_three max_four min_four   -- for this text's walks alone
set_option linter.unusedVariables false
set_option linter.unusedSimpArgs false

/-! ### slices_Contains_2_int_2_int: function 20 -/
def slices_Contains_2_int_2_int.f (k : Nat) (l0 : List (S46)) (a1_0 : Int) (a1_1 : Int) : Option (Bool) := (slices_Index_2_int_2_int.f k l0 a1_0 a1_1).bind fun t1002 => (some (decide (t1002 ≥ 0)))
theorem slices_Contains_2_int_2_int.mono : ∀ a0 a1 a2 k, LeO (slices_Contains_2_int_2_int.f k a0 a1 a2) (slices_Contains_2_int_2_int.f (k + 1) a0 a1 a2) := by
  intro a0 a1 a2 k
  unfold slices_Contains_2_int_2_int.f
  repeat' first
      | (with_reducible exact slices_Index_2_int_2_int.mono _ _ _ _)
      | (with_reducible exact LeO.refl _)
      | (with_reducible exact LeO.none _)
      | (with_reducible refine LeO.ite ?_ ?_)
      | (with_reducible refine LeO.bind ?_ (fun _ => ?_))
      | exact slices_Index_2_int_2_int.mono _ _ _ _
      | exact LeO.none _
      | refine LeO.ite ?_ ?_
      | refine LeO.bind ?_ (fun _ => ?_)
set_option maxHeartbeats 8000000 in
set_option maxRecDepth 100000 in
theorem slices_Contains_2_int_2_int.calls (k : Nat) (A0 : Option Addr) (c0 : Nat) (l0 : List (S46)) (a1_0 : Int) (a1_1 : Int) (r : Bool) (w : World) (hr0 : Kd.C k46 w A0 l0.length l0) (hc0 : l0.length ≤ c0) (h : slices_Contains_2_int_2_int.f k l0 a1_0 a1_1 = some r) :
    Calls Try.prog 20 #[.slice A0 l0.length c0, .agg #[.int .i64 a1_0, .int .i64 a1_1]] w fun e w' => e = .returned (.bool r) ∧ Below w.heap.size w w' := by
  have hu46 := Try.underlying46
  have HR0 := Aside0.mk hr0
  have HC0 := Aside0.mk hc0
  clear hr0 hc0
  have HB := Aside0.mk (Below.refl w.heap.size w)
  have H : ((slices_Index_2_int_2_int.f k l0 a1_0 a1_1).bind fun t1002 => (some (decide (t1002 ≥ 0)))) = some r := h
  clear h
  replace H := Option.bind_eq_some_iff.mp H
  obtain ⟨t1002, A30, H⟩ := H
  replace H : (some (decide (t1002 ≥ 0))) = some r := H
  have A3 := Aside0.mk A30
  clear A30
  obtain rfl := Option.some.inj H
  go_enter Try.func20, Try.ntmps20
  go_wp2_with (first | ((with_reducible refine gate_dst (N := 3) rfl ?_); refine box_event ?hg (N := 3) ?hd (cs := #[.int .i64 a1_0, .int .i64 a1_1]) (t := 46) ?hr ?_; (case hd => rfl); (case hg => rfl); (case hr => first | (go_simp; done) | (go_simp; rfl)); intro gb1001 hg w4 hbox hb; have n0_ := Aside0.mk (below_step (by repeat (first | (with_reducible first | exact HB.out | apply below_alloc | apply pw_below_drewN | apply below_drew1) | exact HB.out)) hb); have n1_ := Aside0.mk (hbox); have n2_ := Aside0.mk ((by rw [hg]; exact (below_size (by repeat (first | (with_reducible first | exact HB.out | apply below_alloc | apply pw_below_drewN | apply below_drew1) | exact HB.out))) : w.heap.size ≤ gb1001)); have n3_ := Aside0.mk ((by rw [hg]; exact (below_size (by repeat (first | (with_reducible first | exact HB.out | apply below_alloc | apply pw_below_drewN | apply below_drew1) | exact HB.out))) : w.heap.size ≤ gb1001)); clear HB; have HB := n0_; have BK1001 := n1_; have GW1001 := n2_; have GE1001 := n3_; clear n0_ n1_ n2_ n3_; clear hb hbox hg; have hcz5_0 : w4.cell? ⟨gb1001, 0, none⟩ = some (.int .i64 a1_0) := (blk_cell BK1001.out 0).trans rfl; have hcz5_1 : w4.cell? ⟨gb1001, 1, none⟩ = some (.int .i64 a1_1) := (blk_cell BK1001.out 1).trans rfl; have hfz5_0 := blk_frozen BK1001.out 0; have hfz5_1 := blk_frozen BK1001.out 1) | ((with_reducible refine gate_callee (f := 45) rfl ?_); refine goesL_ (some 7) rfl rfl Try.func45 (by kernel_rfl) rfl #[.slice A0 l0.length c0, .agg #[.int .i64 a1_0, .int .i64 a1_1]] rfl (by (try simp only [List.map_toArray, List.map_cons, List.map_nil]); first | done | rfl | (simp only [List.length_drop, List.length_take]; rfl)) ?_; (with_reducible refine (slices_Index_2_int_2_int.calls k _ _ l0 a1_0 a1_1 t1002 _ ?side1 ?side2 A3.out).mono ?_); (case side1 => repeat (first | exact (Kd.C_below HR0.out HB.out) | (with_reducible refine Kd.C_alloc ?_ _) | (with_reducible refine Kd.C_drewN ?_ _) | (with_reducible refine Kd.C_drew ?_))); (case side2 => exact HC0.out); rintro e w6 ⟨rfl, hb⟩; refine ⟨_, rfl, ?_⟩; have n0_ := Aside0.mk (blk_below (g := gb1001) (o := .cells #[.int .i64 a1_0, .int .i64 a1_1] 46 (0, 0)) (by (with_reducible repeat (first | refine blk_drewN ?_ _ | refine blk_drew ?_ | refine blk_alloc ?_ _)); exact BK1001.out) hb); have n1_ := Aside0.mk (below_step (by repeat (first | (with_reducible first | exact HB.out | apply below_alloc | apply pw_below_drewN | apply below_drew1 | refine below_set ?_ GE1001.out) | exact HB.out)) hb); clear BK1001; clear HB; have BK1001 := n0_; have HB := n1_; clear n0_ n1_; (try clear hb); (try clear hb2); (try clear hk); (try clear hi)))
  go_ret
  exact ⟨by first | rfl | (simp [errW_none, errW_some] <;> rfl) | (simp [*, errW_none, errW_some] <;> rfl), by repeat (first | (with_reducible first | exact HB.out | apply below_alloc | apply pw_below_drewN | apply below_drew1 | refine below_set ?_ GE1001.out) | exact HB.out)⟩

end Go.Proofs.Ytknchioabngbiaa.P
