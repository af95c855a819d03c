/- A part of a proof that a law's Go function returns true for every input, laid by this session's program mp.py (which drives the kit's print). Conditions: as each theorem states them. -/
import Derived.Shelf.Abstract
import Derived.Shelf.RegionOpen
import Derived.Shelf.AbstractIn
import Derived.Sort.QuietIn
import Derived.OwnWalkIn
import Derived.TacticsInMore
import Derived.LoopNIn
import Derived.LoopIn
import Derived.Test.YtpfjnpbcnlbhaaaCRowsWays1
import Derived.Test.YtpfjnpbcnlbhaaaCRowsWays2
import Derived.Test.YtpfjnpbcnlbhaaaCRowsWays3
import Derived.Test.YtpfjnpbcnlbhaaaCRowsWays4
namespace Go.Proofs.Ytpfjnpbcnlbhaaa.P
open Go.RowKit Go.Proofs.YtpfjnpbcnlbhaaaW.PrintWords Go.Proofs.YtpfjnpbcnlbhaaaW.PrintLast Go.Proofs.YtpfjnpbcnlbhaaaW.PrintMore
attribute [local go_sem] max2_int min2_int max_two min_two max_three min_three max_four min_four   -- for this text's walks alone
set_option linter.unusedVariables false
set_option linter.unusedSimpArgs false

attribute [local go_sem] Oper.semAt_some
/-! rows.Way -/
theorem results_arr_int {fn : Func} {p q : Tmp} (h : fn.results = #[.cell p 37, .cell q 23]) (tmps : Array Value) (w : World) (b1 b2 : Nat) (x y z : Int)
    (hp : tmps.getD p undef = .pointer (some ⟨b1, 0, none⟩)) (hq : tmps.getD q undef = .pointer (some ⟨b2, 0, none⟩))
    (c0 : w.cell? ⟨b1, 0, none⟩ = some (.int .i64 x)) (c1 : w.cell? ⟨b1, 1, none⟩ = some (.int .i64 y)) (c2 : w.cell? ⟨b2, 0, none⟩ = some (.int .i64 z)) :
    (results fn tmps).run Try.prog w = .ok (.tuple #[.agg #[.int .i64 x, .int .i64 y], .int .i64 z]) w := by
  have hp' : tmps[p]?.getD undef = .pointer (some ⟨b1, 0, none⟩) := by simpa using hp
  have hq' : tmps[q]?.getD undef = .pointer (some ⟨b2, 0, none⟩) := by simpa using hq
  unfold results
  simp only [h]
  go_simp
/-- a box of one or two cells that may be written -/
structure BoxAt (W : World) (b : Nat) (cs : List Value) : Prop where
  cell : ∀ i v, cs[i]? = some v → W.cell? ⟨b, i, none⟩ = some v
  frozen : ∀ i, W.frozen? ⟨b, i, none⟩ = false
theorem BoxAt.new (w : World) (cs : List Value) (t : TypeId) : BoxAt (w.alloc (.cells cs.toArray t)) w.heap.size cs := by
  have h := World.alloc_heap_new w (.cells cs.toArray t)
  exact ⟨fun i v hv => by unfold World.cell?; simp only [h]; simpa using hv, fun i => by unfold World.frozen?; simp only [h]; simp⟩
theorem BoxAt.heap {W W' : World} {b : Nat} {cs : List Value} (h : BoxAt W b cs) (hh : W'.heap[b]? = W.heap[b]?) : BoxAt W' b cs :=
  ⟨fun i v hv => by have := h.cell i v hv; unfold World.cell? at this ⊢; simp only [hh]; exact this, fun i => by have := h.frozen i; unfold World.frozen? at this ⊢; simp only [hh]; exact this⟩
theorem BoxAt.lt {W : World} {b : Nat} {v : Value} {cs : List Value} (h : BoxAt W b (v :: cs)) : b < W.heap.size := World.block_lt_of_cell? W _ (h.cell 0 v rfl)
theorem BoxAt.alloc {W : World} {b : Nat} {v : Value} {cs : List Value} (h : BoxAt W b (v :: cs)) (o : Obj) : BoxAt (W.alloc o) b (v :: cs) := h.heap (Below.heap_alloc _ _ _ h.lt)
theorem BoxAt.drewN {W : World} {b : Nat} {cs : List Value} (h : BoxAt W b cs) (q : Nat) : BoxAt (W.drewN q) b cs := ⟨h.cell, h.frozen⟩
theorem BoxAt.grown {W W' : World} {b : Nat} {v : Value} {cs : List Value} (h : BoxAt W b (v :: cs)) (hg : W.grownBy W' none) : BoxAt W' b (v :: cs) := h.heap (hg.block b h.lt (by simp))
theorem BoxAt.own {W W' : World} {b : Nat} {v : Value} {cs : List Value} {row : Option Nat} (h : BoxAt W b (v :: cs)) (hg : W.grownBy W' row) (hr : ∀ r, row = some r → ∃ o : Obj, W.heap[r]? = some o ∧ o.isCells = false) : BoxAt W' b (v :: cs) :=
  ⟨fun i u hu => cell_kept (h.cell i u hu) hg hr, fun i => by
    have hb : W'.heap[b]? = W.heap[b]? := by
      refine hg.block b h.lt (fun e => ?_)
      obtain ⟨o, ho, hc⟩ := hr b e.symm
      have := h.cell 0 v rfl
      unfold World.cell? at this; rw [ho] at this; cases o <;> simp_all [Obj.isCells]
    exact (h.heap hb).frozen i⟩

theorem whole_calls (A : Option Addr) (c m : Nat) (w : World) : Calls Try.prog 52 #[.slice A m c] w fun e w' => e = .returned (.agg #[.int .i64 (m : Int), .slice A m c]) ∧ w.grownBy w' none := by
  have hu65 := Try.underlying65
  have hg : w.grownBy (w.alloc (.cells #[.int .i64 (m : Int), .slice A m c] 65)) none := World.grownBy_alloc w _ none
  have hc := World.alloc_heap_new w (.cells #[.int .i64 (m : Int), .slice A m c] 65)
  have HG := Aside0.mk hg
  have HC := Aside0.mk hc
  clear hg hc
  go_enter Try.func52, Try.ntmps52
  go_wp2
  refine bodyPost_ret (results_cell_row rfl _ _ w.heap.size 65 #[.int .i64 (m : Int), .slice A m c] (0, 0) _ rfl HC.out hu65 rfl (by kernel_rfl)) rfl ?_
  exact ⟨rfl, HG.out⟩
theorem own_kpc {base : Nat} {A B : World} {row : Option Nat} (hg : A.grownBy B row) (hr : ∀ r, row = some r → base ≤ r ∧ ∃ o : Obj, A.heap[r]? = some o ∧ o.isCells = false) : KpC (fun _ => False) A B :=
  ⟨hg.size, fun b o _ ho hc => by
    refine (hg.block b (Array.getElem?_eq_some_iff.1 ho).1 (fun e => ?_)).trans ho
    obtain ⟨_, o', ho', hc'⟩ := hr b e.symm
    rw [ho] at ho'; cases ho'; rw [hc] at hc'; cases hc'⟩
theorem C_kpc {X : Nat → Prop} {W W' : World} {A : Option Addr} {m : Nat} {xs : List Int} (h : Kd.C (Kd.int .i64) W A m xs) (hk : KpC X W W') (hx : ∀ a, A = some a → 0 < m → ¬ X a.block) : Kd.C (Kd.int .i64) W' A m xs := by
  obtain ⟨h1, h2, h3⟩ := h
  refine ⟨h1, h2, fun hn => ?_⟩
  obtain ⟨ad, e, hc⟩ := h3 hn
  refine ⟨ad, e, fun j p hp => ?_⟩
  obtain ⟨c, hcl, hR, hcc⟩ := hc j p hp
  refine ⟨c, hcl, hR, fun i u hu => ?_⟩
  have h4 := hcc i u hu
  have hb : ¬ X (ad.add (j * (Kd.int .i64).sz + i)).block := by rw [add_block]; exact hx ad e hn
  generalize ad.add (j * (Kd.int .i64).sz + i) = p4 at h4 hb ⊢
  obtain ⟨o, ho⟩ : ∃ o, W.heap[p4.block]? = some o := ⟨_, Array.getElem?_eq_getElem (World.block_lt_of_cell? W _ h4)⟩
  have hoc : o.isCells = true := by
    unfold World.cell? at h4
    rw [ho] at h4
    cases o <;> simp_all [Obj.isCells]
  have h5 := hk.2 _ o hb ho hoc
  unfold World.cell? at h4 ⊢
  rw [ho] at h4; rw [h5]; exact h4
theorem BoxAt.kpc {X : Nat → Prop} {W W' : World} {b : Nat} {v : Value} {cs : List Value} (h : BoxAt W b (v :: cs)) (hk : KpC X W W') (hx : ¬ X b) : BoxAt W' b (v :: cs) := by
  obtain ⟨o, ho⟩ : ∃ o, W.heap[b]? = some o := ⟨_, Array.getElem?_eq_getElem h.lt⟩
  have h0 := h.cell 0 v rfl
  have hoc : o.isCells = true := by
    unfold World.cell? at h0
    rw [ho] at h0
    cases o <;> simp_all [Obj.isCells]
  exact h.heap ((hk.2 b o hx ho hoc).trans ho.symm)
theorem BoxAt.far {W : World} {b : Nat} {cs : List Value} (h : BoxAt W b cs) {p : Addr} (hp : b ≠ p.block) (x : Value) : BoxAt (W.setCell p x) b cs := h.heap (Below.heap_setCell _ _ _ _ hp)
theorem BoxAt.put1 {W : World} {b : Nat} {u : Value} (h : BoxAt W b [u]) (x : Value) : BoxAt (W.setCell ⟨b, 0, none⟩ x) b [x] :=
  ⟨fun i v hv => by
    match i, hv with
    | 0, hv => cases hv; exact World.cell?_setCell_same' _ _ _ (by rw [h.cell 0 u rfl]; rfl)
    | i + 1, hv => simp at hv, fun i => by rw [World.frozen?_setCell]; exact h.frozen i⟩
theorem BoxAt.put2 {W : World} {b : Nat} {u v : Value} (h : BoxAt W b [u, v]) (x y : Value) : BoxAt ((W.setCell ⟨b, 0, none⟩ x).setCell ⟨b, 1, none⟩ y) b [x, y] := by
  have h0 : (W.setCell ⟨b, 0, none⟩ x).cell? ⟨b, 0, none⟩ = some x := World.cell?_setCell_same' _ _ _ (by rw [h.cell 0 u rfl]; rfl)
  have h1 : (W.setCell ⟨b, 0, none⟩ x).cell? ⟨b, 1, none⟩ = some v := by rw [World.cell?_setCell_other _ _ _ _ (by simp)]; exact h.cell 1 v rfl
  refine ⟨fun i z hz => ?_, fun i => by rw [World.frozen?_setCell, World.frozen?_setCell]; exact h.frozen i⟩
  match i, hz with
  | 0, hz => cases hz; rw [World.cell?_setCell_other _ _ _ _ (by simp)]; exact h0
  | 1, hz => cases hz; exact World.cell?_setCell_same' _ _ _ (by rw [h1]; rfl)
  | i + 2, hz => simp at hz
theorem stores3 {w W : World} {S : Nat} {u v z : Value} (y1 : BoxAt W (S + 1) [u, v]) (y2 : BoxAt W (S + 1 + 1) [z]) (y3 : Below S w W) (x y r : Value) (V : World) (hV : V = ((W.setCell ⟨S + 1, 0, none⟩ x).setCell ⟨S + 1, 1, none⟩ y).setCell ⟨S + 1 + 1, 0, none⟩ r) :
    KeepsOthers W V ∧ BoxAt V (S + 1) [x, y] ∧ BoxAt V (S + 1 + 1) [r] ∧ Below S w V := by
  subst hV
  refine ⟨((KeepsOthers.setCell _ _ _).trans (KeepsOthers.setCell _ _ _)).trans (KeepsOthers.setCell _ _ _), (y1.put2 x y).far (by simp) r, ((y2.far (by simp) x).far (by simp) y).put1 r, ?_⟩
  exact ((y3.setCell (p := ⟨S + 1, 0, none⟩) (by simp) _).setCell (p := ⟨S + 1, 1, none⟩) (by simp) _).setCell (p := ⟨S + 1 + 1, 0, none⟩) (by simp; omega) _
theorem find_at {α : Type} {xs pre rest : List α} {x : α} {p : α → Bool} (h : xs = pre ++ x :: rest) (hp : ∀ q ∈ pre, p q = false) (hx : p x = true) : xs.find? p = some x := by
  subst h
  rw [List.find?_append, List.find?_eq_none.2 (fun q hq => by simp [hp q hq])]
  simp [hx]
def wayOf (a b : List Int) : Option (Nat × Nat) := (formPairs a.length).find? fun p => decide (formOf a.length p.1 p.2 a = b)
def rows_Way.f (l0 l1 : List Int) : Option (Int × Int × Int) := if IsRow l0 ∧ IsRow l1 ∧ l0.length = l1.length then (match wayOf l0 l1 with | some p => some ((p.1 : Int), (p.2 : Int), 0) | none => some (0, 0, 4)) else some (0, 0, 2)
set_option maxHeartbeats 4000000 in
set_option maxRecDepth 100000 in
theorem rows_Way.calls (A0 : Option Addr) (c0 : Nat) (l0 : List Int) (A1 : Option Addr) (c1 : Nat) (l1 : List Int) (r1 r2 r3 : Int) (w : World) (hr0 : Kd.C (Kd.int .i64) w A0 l0.length l0) (hc0 : l0.length ≤ c0) (hr1 : Kd.C (Kd.int .i64) w A1 l1.length l1) (hc1 : l1.length ≤ c1) (h : rows_Way.f l0 l1 = some (r1, r2, r3)) :
    Calls Try.prog 25 #[.slice A0 l0.length c0, .slice A1 l1.length c1] w fun e w' => e = .returned (.tuple #[.agg #[.int .i64 r1, .int .i64 r2], .int .i64 r3]) ∧ Below w.heap.size w w' := by
  have HR0 := Aside0.mk hr0
  have HR1 := Aside0.mk hr1
  have HC0 := Aside0.mk hc0
  have HC1 := Aside0.mk hc1
  obtain ⟨kv0, hv0⟩ := Ev.rounds (g := fun k => rows_row_valid.f k l0) (valid_ev l0)
  obtain ⟨kv1, hv1⟩ := Ev.rounds (g := fun k => rows_row_valid.f k l1) (valid_ev l1)
  have HV0 := Aside0.mk (fun W (hb : Below w.heap.size w W) => rows_row_valid.calls kv0 A0 c0 l0 _ W (Kd.C_below hr0 hb) hc0 hv0)
  have HV1 := Aside0.mk (fun W (hb : Below w.heap.size w W) => rows_row_valid.calls kv1 A1 c1 l1 _ W (Kd.C_below hr1 hb) hc1 hv1)
  have H := Aside0.mk h
  clear hr0 hr1 hc0 hc1 hv0 hv1 h
  refine (callsIn_wide (n := 3)).1 ?_
  refine callsIn_of_wp_marks Try.func25 rfl trivial ?_ rfl
  simp only [Try.ntmps25, List.size_toArray, List.length_cons, List.length_nil, Nat.reduceAdd, Nat.reduceSub, Array.replicate_succ, Array.replicate_zero, List.push_toArray, List.append_toArray, List.nil_append, List.cons_append]
  obtain ⟨S, hS⟩ : ∃ S, S = w.heap.size := ⟨_, rfl⟩
  obtain ⟨W0, hW0⟩ : ∃ W0, (((w.alloc (.cells #[.slice A1 l1.length c1] 22)).alloc (.cells #[.int .i64 0, .int .i64 0] 37)).alloc (.cells #[.int .i64 0] 23)) = W0 := ⟨_, rfl⟩
  have hB0 : Below w.heap.size w W0 := by rw [← hW0]; exact below_alloc (below_alloc (below_alloc (Below.refl _ _) _) _) _
  have HB0 := Aside0.mk hB0
  have HW0 := Aside0.mk hW0
  have HS := Aside0.mk hS
  clear hB0
  have HX0 : Aside0 (BoxAt W0 w.heap.size [.slice A1 l1.length c1] ∧ BoxAt W0 (w.heap.size + 1) [.int .i64 0, .int .i64 0] ∧ BoxAt W0 (w.heap.size + 1 + 1) [.int .i64 0]) := ⟨by
    have x0 := BoxAt.new w [.slice A1 l1.length c1] 22
    have x1 := BoxAt.new (w.alloc (.cells #[.slice A1 l1.length c1] 22)) [.int .i64 0, .int .i64 0] 37
    have x2 := BoxAt.new ((w.alloc (.cells #[.slice A1 l1.length c1] 22)).alloc (.cells #[.int .i64 0, .int .i64 0] 37)) [.int .i64 0] 23
    simp only [World.size_alloc] at x1 x2
    rw [← HW0.out]
    exact ⟨(x0.alloc _).alloc _, x1.alloc _, x2⟩⟩
  have q0 : W0.cell? ⟨w.heap.size, 0, none⟩ = some (.slice A1 l1.length c1) := HX0.out.1.cell 0 _ rfl
  have q10 := HX0.out.2.1.cell 0 _ rfl
  have q11 := HX0.out.2.1.cell 1 _ rfl
  have qf10 := HX0.out.2.1.frozen 0
  have qf11 := HX0.out.2.1.frozen 1
  have q20 := HX0.out.2.2.cell 0 _ rfl
  have qf20 := HX0.out.2.2.frozen 0
  by_cases hr0 : IsRow l0
  · by_cases hr1 : IsRow l1
    · by_cases hle : l0.length = l1.length
      · have e0 : decide (IsRow l0) = true := decide_eq_true hr0
        have e1 : decide (IsRow l1) = true := decide_eq_true hr1
        rw [e0] at HV0
        rw [e1] at HV1
        have hne : ((l0.length : Int) != (l1.length : Int)) = false := by simp [hle]
        have HLE := Aside0.mk hle
        clear hle
        gi_wp2_with (first | (refine ⟨trivial, ?_⟩; (try rw [hW0]); gi_at_call 46; (with_reducible refine (callsIn_wide.2 (HV0.out _ HB0.out)).mono ?_); rintro e w' ⟨rfl, ⟨q, rfl⟩⟩; clear HV0 hW0) | (refine ⟨trivial, ?_⟩; gi_at_call 46; (with_reducible refine (callsIn_wide.2 (HV1.out _ (pw_below_drewN HB0.out _))).mono ?_); rintro e w' ⟨rfl, ⟨q2, rfl⟩⟩; clear HV1) | (refine ⟨trivial, ?_⟩; gi_at_call 52; (with_reducible refine (callsIn_wide.2 (whole_calls _ _ _ _)).mono ?_); rintro e w' ⟨rfl, hg⟩))
        have hg2 : W0.grownBy w' none := grown_of_below ((pw_below_drewN (Below.refl W0.heap.size W0) _).grown hg (Nat.le_refl _) (fun k e => by cases e)) none
        obtain ⟨x0, x1, x2⟩ := HX0.out
        have x0 := x0.grown hg2
        have x1 := x1.grown hg2
        have x2 := x2.grown hg2
        have hbw : Below w.heap.size w w' := (HB0.out).grown hg2 HB0.out.size (fun k e => by cases e)
        have hl3 : w.heap.size + 1 + 1 < w'.heap.size := x2.lt
        have HG := Aside0.mk hg2
        have HX := Aside0.mk (And.intro x0 (And.intro x1 x2))
        have HBW := Aside0.mk hbw
        have HL3 := Aside0.mk hl3
        have hC : ∀ W, KpC (fun b => b = w.heap.size + 1 ∨ b = w.heap.size + 1 + 1) w' W → Kd.C (Kd.int .i64) W A0 l0.length l0 := fun W hk => C_kpc (Kd.C_below HR0.out hbw) hk (fun a ha hm hb => by
          rcases hb with e | e
          · exact Kd.far_C 0 HR0.out (by omega) a ha hm e
          · exact Kd.far_C 0 HR0.out (by omega) a ha hm e)
        clear hg hg2 x0 x1 x2 hbw hl3 hne q0 q10 q11 qf10 qf11 q20 qf20
        refine range_fs rfl (by omega) (gf := 53) (fs := #[.agg #[.int .i64 (l0.length : Int), .slice A0 l0.length c0]]) (lb := #[]) rfl trivial (enters_of Try.func53 (by kernel_rfl) rfl)
          (forms_seq (fun b => b = w.heap.size + 1 ∨ b = w.heap.size + 1 + 1) l0.length (by have := hr0.1; omega) (by have := hr0.2.1; omega) A0 c0 l0 (by have := hr0.2.1; omega) (row_small hr0) HC0.out w' (fun b hb => by have := HL3.out; omega) hC)
          (fun x W vals hE => by obtain ⟨A, c, rfl, _⟩ := hE; rfl)
          (fun A B h => KeepsOthers.of_grownBy h (fun j o e => by cases e))
          (fun h k => h.trans k)
          (fun W l o o' hl ho hc => KpC.putObj W ho hc)
          (fun pre W => (BoxAt W w.heap.size [.slice A1 l1.length c1] ∧ (∃ u v, BoxAt W (w.heap.size + 1) [u, v]) ∧ (∃ u, BoxAt W (w.heap.size + 1 + 1) [u]) ∧ Below w.heap.size w W ∧ ∀ p ∈ pre, formOf l0.length p.1 p.2 l0 ≠ l1))
          (fun c pre W => (c = .ret ∧ ∃ p, wayOf l0 l1 = some p ∧ BoxAt W (w.heap.size + 1) [.int .i64 (p.1 : Int), .int .i64 (p.2 : Int)] ∧ BoxAt W (w.heap.size + 1 + 1) [.int .i64 0] ∧ Below w.heap.size w W))
          ?hI ?hIx ?hIs ?hIxs ?h0
          (fun x a' W => ∃ Bx A c, a' = { tmps := #[.slice A0 l0.length c0, .slice A1 l1.length c1, undef, .pointer (some ⟨w.heap.size, 0, none⟩), .pointer (some ⟨w.heap.size + 1, 0, none⟩), .pointer (some ⟨w.heap.size + 1 + 1, 0, none⟩), .pointer (some ⟨Bx, 0, none⟩), .slice A0 l0.length c0, .bool true, .bool false, .bool false, .slice A1 l1.length c1, .bool true, .bool false, .bool false, .bool false, .slice A0 l0.length c0, .int .i64 l0.length, .slice A1 l1.length c1, .int .i64 l1.length, .bool false, .bool false, undef, .slice A0 l0.length c0, .agg #[.int .i64 l0.length, .slice A0 l0.length c0], .func (.func 53) #[.agg #[.int .i64 l0.length, .slice A0 l0.length c0]] #[], .agg #[.int .i64 x.1, .int .i64 x.2, .slice A (formOf l0.length x.1 x.2 l0).length c], undef, undef, undef, undef, undef, undef, undef], defers := [] } ∧
            BoxAt W Bx [.int .i64 x.1, .int .i64 x.2, .slice A (formOf l0.length x.1 x.2 l0).length c] ∧ Kd.C (Kd.int .i64) W A (formOf l0.length x.1 x.2 l0).length (formOf l0.length x.1 x.2 l0) ∧ (formOf l0.length x.1 x.2 l0).length ≤ c)
          ?hAx ?assign ?body ?done ?stop
        case hI =>
          rintro s A B row ⟨y0, ⟨u, v, y1⟩, ⟨z, y2⟩, y3, y4⟩ hg hr
          exact ⟨y0.own hg (fun r e => (hr r e).2), ⟨u, v, y1.own hg (fun r e => (hr r e).2)⟩, ⟨z, y2.own hg (fun r e => (hr r e).2)⟩, y3.grown hg y3.size (fun k e => by have := (hr k e).1; have := HBW.out.size; omega), y4⟩
        case hIx =>
          rintro c s A B row ⟨y0, p, y1, y2, y3, y4⟩ hg hr
          exact ⟨y0, p, y1, y2.own hg (fun r e => (hr r e).2), y3.own hg (fun r e => (hr r e).2), y4.grown hg y4.size (fun k e => by have := (hr k e).1; have := HBW.out.size; omega)⟩
        case hIs =>
          rintro s A B ⟨y0, ⟨u, v, y1⟩, ⟨z, y2⟩, y3, y4⟩ hg
          exact ⟨y0.grown hg, ⟨u, v, y1.grown hg⟩, ⟨z, y2.grown hg⟩, y3.grown hg y3.size (fun k e => by cases e), y4⟩
        case hIxs =>
          rintro c s A B ⟨y0, p, y1, y2, y3, y4⟩ hg
          exact ⟨y0, p, y1, y2.grown hg, y3.grown hg, y4.grown hg y4.size (fun k e => by cases e)⟩
        case h0 => exact ⟨HX.out.1, ⟨_, _, HX.out.2.1⟩, ⟨_, HX.out.2.2⟩, HBW.out, by simp⟩
        case hAx =>
          rintro x a' s A B row ⟨Bx, A', c, e, hb, hC, hl⟩ hg hr
          exact ⟨Bx, A', c, e, hb.own hg (fun r e => (hr r e).2), C_kpc hC (own_kpc hg hr) (fun _ _ _ h => h), hl⟩
        case assign =>
          rintro l pre x vals W K hI ⟨A, c, rfl, hCv, hlv⟩ hK
          have HK := Aside0.mk hK
          have HI := Aside0.mk hI
          have HCV := Aside0.mk hCv
          have HLV := Aside0.mk hlv
          clear hK hI hCv hlv hC
          gi_wp2
          have g1 : W.grownBy (W.alloc (.cells #[.int .i64 (x.1 : Int), .int .i64 (x.2 : Int), .slice A (formOf l0.length x.1 x.2 l0).length c] 68)) none := World.grownBy_alloc W _ none
          obtain ⟨y0, ⟨u, v, y1⟩, ⟨z, y2⟩, y3, y4⟩ := HI.out
          exact HK.out _ _ (KeepsOthers.of_grownBy g1 (fun j o e => by cases e)) (KpC.of_grown g1)
            ⟨y0.grown g1, ⟨u, v, y1.grown g1⟩, ⟨z, y2.grown g1⟩, y3.grown g1 y3.size (fun k e => by cases e), y4⟩
            ⟨W.heap.size, A, c, rfl, BoxAt.new W _ _, C_kpc HCV.out (KpC.of_grown (X := fun _ => False) g1) (fun _ _ _ h => h), HLV.out⟩
        case body =>
          rintro l pre x rest a' W hlw hloop hx ⟨y0, ⟨u, v, y1⟩, ⟨z, y2⟩, y3, y4⟩ ⟨Bx, A, c, rfl, hb, hCx, hlx⟩
          have hl1 : (formOf l0.length x.1 x.2 l0).length < 9223372036854775807 := by
            have : (formOf l0.length x.1 x.2 l0).length = l0.length := by unfold formOf; split <;> simp
            have := hr0.2.1; omega
          obtain ⟨ke, hke⟩ := Ev.rounds (g := fun k => slices_Equal_int_int.f k (formOf l0.length x.1 x.2 l0) l1) (Equal_ev _ _ hl1)
          have HEQ := Aside0.mk (slices_Equal_int_int.calls ke A c _ A1 c1 l1 _ W hCx hlx (Kd.C_below HR1.out y3) HC1.out hke)
          have b2 := hb.cell 2 _ rfl
          have b0 := hb.cell 0 _ rfl
          have b1 := hb.cell 1 _ rfl
          have s0 := y0.cell 0 _ rfl
          have t0 := y1.cell 0 _ rfl
          have t1 := y1.cell 1 _ rfl
          have tf0 := y1.frozen 0
          have tf1 := y1.frozen 1
          have z0 := y2.cell 0 _ rfl
          have zf := y2.frozen 0
          have HY := Aside0.mk (And.intro y0 (And.intro y1 (And.intro y2 (And.intro y3 y4))))
          have HB := Aside0.mk hb
          have HXX := Aside0.mk hx
          clear hb hx y0 y1 y2 y3 y4 hCx hlx hke hl1 hC
          by_cases hd : formOf l0.length x.1 x.2 l0 = l1
          · have HD := Aside0.mk hd
            rw [decide_eq_true hd] at HEQ
            clear hd
            gi_wp2_with (refine ⟨trivial, ?_⟩; gi_at_call 20; (with_reducible refine (CallsIn.inRound l (callsIn_wide.2 HEQ.out)).mono ?_); rintro e w2 ⟨rfl, ⟨q, rfl⟩⟩)
            obtain ⟨y0, y1, y2, y3, y4⟩ := HY.out
            have hs3 := stores3 (y1.drewN q) (y2.drewN q) (pw_below_drewN y3 q) (.int .i64 (x.1 : Int)) (.int .i64 (x.2 : Int)) (.int .i64 0) _ rfl
            refine ⟨(show KeepsOthers W (W.drewN q) from ⟨Nat.le_refl _, fun _ _ h _ => h⟩).trans hs3.1, rfl, x, ?_, hs3.2.1, hs3.2.2.1, hs3.2.2.2⟩
            exact find_at HXX.out (fun p hp => decide_eq_false (y4 p hp)) (decide_eq_true HD.out)
          · have HD := Aside0.mk hd
            rw [decide_eq_false hd] at HEQ
            clear hd
            gi_wp2_with (refine ⟨trivial, ?_⟩; gi_at_call 20; (with_reducible refine (CallsIn.inRound l (callsIn_wide.2 HEQ.out)).mono ?_); rintro e w2 ⟨rfl, ⟨q, rfl⟩⟩)
            obtain ⟨y0, y1, y2, y3, y4⟩ := HY.out
            refine ⟨⟨Nat.le_refl _, fun _ _ h _ => h⟩, ⟨Nat.le_refl _, fun _ _ _ h _ => h⟩, y0.drewN q, ⟨_, _, y1.drewN q⟩, ⟨_, y2.drewN q⟩, pw_below_drewN y3 q, ?_⟩
            intro p hp
            rcases List.mem_append.1 hp with h | h
            · exact y4 p h
            · rw [List.mem_singleton] at h; subst h; exact HD.out
        case done =>
          rintro D W hD ⟨y0, ⟨u, v, y1⟩, ⟨z, y2⟩, y3, y4⟩ hK
          have t0 := y1.cell 0 _ rfl
          have t1 := y1.cell 1 _ rfl
          have tf0 := y1.frozen 0
          have tf1 := y1.frozen 1
          have z0 := y2.cell 0 _ rfl
          have zf := y2.frozen 0
          have HY := Aside0.mk (And.intro y1 (And.intro y2 (And.intro y3 y4)))
          have HK := Aside0.mk hK
          clear y0 y1 y2 y3 y4 hK hC
          gi_wp2
          obtain ⟨y1, y2, y3, y4⟩ := HY.out
          have hs3 := stores3 y1 y2 y3 (.int .i64 0) (.int .i64 0) (.int .i64 4) _ rfl
          have hkk := hs3.1.same D _ HK.out rfl
          refine ⟨by simp, .inl ⟨_, _, rfl, run_takeDeferred hkk, ?_⟩⟩
          have hk := KpC.putObj (X := fun _ => False) (o' := .deferred none) _ hkk rfl
          refine ⟨_, results_arr_int rfl _ _ (w.heap.size + 1) (w.heap.size + 1 + 1) 0 0 4 rfl rfl (hk.cell (fun h => h) (hs3.2.1.cell 0 _ rfl)) (hk.cell (fun h => h) (hs3.2.1.cell 1 _ rfl)) (hk.cell (fun h => h) (hs3.2.2.1.cell 0 _ rfl)), ?_, ?_⟩
          · have hn : wayOf l0 l1 = none := List.find?_eq_none.2 (fun p hp => by simp [y4 p hp])
            have h := H.out
            unfold rows_Way.f at h
            rw [if_pos ⟨hr0, hr1, HLE.out⟩, hn] at h
            cases h; rfl
          · exact hs3.2.2.2.grown (grownBy_putObj' _ D _) hs3.2.2.2.size (fun k e => by cases e; have := HBW.out.size; omega)
        case stop =>
          rintro D cc pre rest W hD hx ⟨rfl, p, hp, y1, y2, y3⟩ hK
          have HY := Aside0.mk (And.intro y1 (And.intro y2 y3))
          have HK := Aside0.mk hK
          clear y1 y2 y3 hK hC
          gi_wp2
          obtain ⟨y1, y2, y3⟩ := HY.out
          refine ⟨by simp, .inl ⟨_, _, rfl, run_takeDeferred HK.out, ?_⟩⟩
          have hk := KpC.putObj (X := fun _ => False) (o' := .deferred none) _ HK.out rfl
          refine ⟨_, results_arr_int rfl _ _ (w.heap.size + 1) (w.heap.size + 1 + 1) (p.1 : Int) (p.2 : Int) 0 rfl rfl (hk.cell (fun h => h) (y1.cell 0 _ rfl)) (hk.cell (fun h => h) (y1.cell 1 _ rfl)) (hk.cell (fun h => h) (y2.cell 0 _ rfl)), ?_, ?_⟩
          · have h := H.out
            unfold rows_Way.f at h
            rw [if_pos ⟨hr0, hr1, HLE.out⟩, hp] at h
            cases h; rfl
          · exact y3.grown (grownBy_putObj' _ D _) y3.size (fun k e => by cases e; have := HBW.out.size; omega)
      · have e0 : decide (IsRow l0) = true := decide_eq_true hr0
        have e1 : decide (IsRow l1) = true := decide_eq_true hr1
        rw [e0] at HV0
        rw [e1] at HV1
        have hne : ((l0.length : Int) != (l1.length : Int)) = true := bne_iff_ne.2 (by omega)
        have HLEN := Aside0.mk hle
        clear hle
        gi_wp2_with (first | (refine ⟨trivial, ?_⟩; (try rw [hW0]); gi_at_call 46; (with_reducible refine (callsIn_wide.2 (HV0.out _ HB0.out)).mono ?_); rintro e w' ⟨rfl, ⟨q, rfl⟩⟩; clear HV0 hW0) | (refine ⟨trivial, ?_⟩; gi_at_call 46; (with_reducible refine (callsIn_wide.2 (HV1.out _ (pw_below_drewN HB0.out _))).mono ?_); rintro e w' ⟨rfl, ⟨q2, rfl⟩⟩; clear HV1))
        have hs3 := stores3 (HX0.out.2.1.drewN (q + q2)) (HX0.out.2.2.drewN (q + q2)) (pw_below_drewN HB0.out (q + q2)) (.int .i64 0) (.int .i64 0) (.int .i64 2) _ rfl
        refine ⟨_, results_arr_int rfl _ _ (w.heap.size + 1) (w.heap.size + 1 + 1) 0 0 2 rfl rfl (hs3.2.1.cell 0 _ rfl) (hs3.2.1.cell 1 _ rfl) (hs3.2.2.1.cell 0 _ rfl), ?_, hs3.2.2.2⟩
        have h := H.out
        unfold rows_Way.f at h
        rw [if_neg (fun hh => HLEN.out hh.2.2)] at h
        cases h; rfl
    · have e0 : decide (IsRow l0) = true := decide_eq_true hr0
      have e1 : decide (IsRow l1) = false := decide_eq_false hr1
      rw [e0] at HV0
      rw [e1] at HV1
      gi_wp2_with (first | (refine ⟨trivial, ?_⟩; (try rw [hW0]); gi_at_call 46; (with_reducible refine (callsIn_wide.2 (HV0.out _ HB0.out)).mono ?_); rintro e w' ⟨rfl, ⟨q, rfl⟩⟩; clear HV0 hW0) | (refine ⟨trivial, ?_⟩; gi_at_call 46; (with_reducible refine (callsIn_wide.2 (HV1.out _ (pw_below_drewN HB0.out _))).mono ?_); rintro e w' ⟨rfl, ⟨q2, rfl⟩⟩; clear HV1))
      have hs3 := stores3 (HX0.out.2.1.drewN (q + q2)) (HX0.out.2.2.drewN (q + q2)) (pw_below_drewN HB0.out (q + q2)) (.int .i64 0) (.int .i64 0) (.int .i64 2) _ rfl
      refine ⟨_, results_arr_int rfl _ _ (w.heap.size + 1) (w.heap.size + 1 + 1) 0 0 2 rfl rfl (hs3.2.1.cell 0 _ rfl) (hs3.2.1.cell 1 _ rfl) (hs3.2.2.1.cell 0 _ rfl), ?_, hs3.2.2.2⟩
      have h := H.out
      unfold rows_Way.f at h
      rw [if_neg (fun hh => hr1 hh.2.1)] at h
      cases h; rfl
  · have e0 : decide (IsRow l0) = false := decide_eq_false hr0
    rw [e0] at HV0
    gi_wp2_with (refine ⟨trivial, ?_⟩; (try rw [hW0]); gi_at_call 46; (with_reducible refine (callsIn_wide.2 (HV0.out _ HB0.out)).mono ?_); rintro e w' ⟨rfl, ⟨q, rfl⟩⟩; clear HV0 hW0)
    refine ⟨trivial, ?_⟩
    gi_wp2
    have hs3 := stores3 (HX0.out.2.1.drewN q) (HX0.out.2.2.drewN q) (pw_below_drewN HB0.out q) (.int .i64 0) (.int .i64 0) (.int .i64 2) _ rfl
    refine ⟨_, results_arr_int rfl _ _ (w.heap.size + 1) (w.heap.size + 1 + 1) 0 0 2 rfl rfl (hs3.2.1.cell 0 _ rfl) (hs3.2.1.cell 1 _ rfl) (hs3.2.2.1.cell 0 _ rfl), ?_, hs3.2.2.2⟩
    have h := H.out
    unfold rows_Way.f at h
    rw [if_neg (fun hh => hr0 hh.1)] at h
    cases h; rfl

end Go.Proofs.Ytpfjnpbcnlbhaaa.P
namespace Go.Proofs.Ytpfjnpbcnlbhaaa.P
open Go.RowKit Go.Proofs.YtpfjnpbcnlbhaaaW.PrintWords Go.Proofs.YtpfjnpbcnlbhaaaW.PrintLast Go.Proofs.YtpfjnpbcnlbhaaaW.PrintMore
attribute [local go_sem] max2_int min2_int max_two min_two max_three min_three max_four min_four   -- for this text's walks alone
set_option linter.unusedVariables false
set_option linter.unusedSimpArgs false

/-! ### sackbutref05_less: function 69 -/
def sackbutref05_less.l0 : Nat → List Int → List Int → Int → Int → Option (Bool)
  | 0, _, _, _, _ => none
  | k + 1, x1, x7, x8, x9 => if x9 < x8 then (if 0 ≤ x9 then (if x9 < (x7.length : Int) then (if x9 < (x1.length : Int) then (if (rd x7 x9) = (rd x1 x9) then (sackbutref05_less.l0 k x1 x7 x8 (wrap64 (x9 + 1))) else (some (decide ((rd x7 x9) < (rd x1 x9))))) else (none)) else (none)) else (none)) else (some false)
def sackbutref05_less.f (k : Nat) (l0 : List Int) (l1 : List Int) : Option (Bool) := sackbutref05_less.l0 k l1 l0 (l0.length : Int) 0
theorem sackbutref05_less.mono_l : ∀ k, (∀ y0 y1 y2 y3, LeO (sackbutref05_less.l0 k y0 y1 y2 y3) (sackbutref05_less.l0 (k + 1) y0 y1 y2 y3))
  | 0 => fun _ _ _ _ r h => by simp [sackbutref05_less.l0] at h
  | k + 1 => by
    have ih0 := sackbutref05_less.mono_l k
    · intro y0 y1 y2 y3
      unfold sackbutref05_less.l0
      repeat' first
      | (with_reducible exact ih0 _ _ _ _)
      | (with_reducible exact LeO.refl _)
      | (with_reducible exact LeO.none _)
      | (with_reducible refine LeO.ite ?_ ?_)
      | (with_reducible refine LeO.bind ?_ (fun _ => ?_))
      | exact ih0 _ _ _ _
      | exact LeO.none _
      | refine LeO.ite ?_ ?_
      | refine LeO.bind ?_ (fun _ => ?_)
theorem sackbutref05_less.mono : ∀ a0 a1 k, LeO (sackbutref05_less.f k a0 a1) (sackbutref05_less.f (k + 1) a0 a1) := by
  intro a0 a1 k
  have ih0 := sackbutref05_less.mono_l k
  unfold sackbutref05_less.f
  repeat' first
      | (with_reducible exact ih0 _ _ _ _)
      | (with_reducible exact LeO.refl _)
      | (with_reducible exact LeO.none _)
      | (with_reducible refine LeO.ite ?_ ?_)
      | (with_reducible refine LeO.bind ?_ (fun _ => ?_))
      | exact ih0 _ _ _ _
      | exact LeO.none _
      | refine LeO.ite ?_ ?_
      | refine LeO.bind ?_ (fun _ => ?_)
set_option maxHeartbeats 8000000 in
set_option maxRecDepth 100000 in
theorem sackbutref05_less.calls (k : Nat) (A0 : Option Addr) (c0 : Nat) (l0 : List Int) (A1 : Option Addr) (c1 : Nat) (l1 : List Int) (r : Bool) (w : World) (hr0 : Kd.C (Kd.int .i64) w A0 l0.length l0) (hc0 : l0.length ≤ c0) (hr1 : Kd.C (Kd.int .i64) w A1 l1.length l1) (hc1 : l1.length ≤ c1) (h : sackbutref05_less.f k l0 l1 = some r) :
    Calls Try.prog 69 #[.slice A0 l0.length c0, .slice A1 l1.length c1] w fun e w' => e = .returned (.bool r) ∧ Drawn0 w w' := by
  have HR0 := Aside0.mk hr0
  have HC0 := Aside0.mk hc0
  clear hr0 hc0
  have HR1 := Aside0.mk hr1
  have HC1 := Aside0.mk hc1
  clear hr1 hc1
  have H : (sackbutref05_less.l0 k l1 l0 (l0.length : Int) 0) = some r := h
  clear h
  have H' := Aside0.mk H
  clear H
  go_enter Try.func69, Try.ntmps69
  go_wp2
  go_loopg [9] k (fun kq v9 w' => ∃ (x9_1 : Int), v9 = .int .i64 x9_1 ∧ Aside0 (sackbutref05_less.l0 kq l1 l0 (l0.length : Int) x9_1 = some r) ∧ Aside0 (kq ≤ k) ∧ Drawn0 w w')
  case atStart => exact ⟨(0), (by first | rfl | (simp; done) | (simp [*]; done)), H', ⟨Nat.le_refl _⟩, by repeat (first | exact Drawn0.refl _ | apply Drawn0.step)⟩
  case round =>
    clear H'
    try clear c1
    try clear p2
    obtain ⟨x9_1, rfl, HA, HK1, ⟨m1, rfl⟩⟩ := hrel
    cases gk with
    | zero => exact absurd HA.out (by simp [sackbutref05_less.l0])
    | succ k1 =>
      have H := HA.out
      clear HA
      simp only [sackbutref05_less.l0] at H
      by_cases c3 : x9_1 < (l0.length : Int)
      · rw [if_pos c3] at H
        have c3b0 : decide (x9_1 < (l0.length : Int)) = true := decide_eq_true c3
        clear c3
        by_cases c4 : 0 ≤ x9_1
        · rw [if_pos c4] at H
          have c4b0 : decide (0 ≤ x9_1) = true := decide_eq_true c4
          clear c4
          by_cases c5 : x9_1 < (l0.length : Int)
          · rw [if_pos c5] at H
            have c5b0 : decide (x9_1 < (l0.length : Int)) = true := decide_eq_true c5
            clear c5
            by_cases c6 : x9_1 < (l1.length : Int)
            · rw [if_pos c6] at H
              have c6b0 : decide (x9_1 < (l1.length : Int)) = true := decide_eq_true c6
              clear c6
              by_cases c7 : (rd l0 x9_1) = (rd l1 x9_1)
              · rw [if_pos c7] at H
                have c7b0 : ((rd l0 x9_1) == (rd l1 x9_1)) = true := beq_iff_eq.mpr c7
                have c7b1 : ((rd l0 x9_1) != (rd l1 x9_1)) = false := bne_eq_false_iff_eq.mpr c7
                clear c7
                have H' := Aside0.mk H
                clear H
                have p1001 : 0 ≤ (x9_1 : Int) := of_decide_eq_true (by first | (with_reducible assumption) | assumption)
                have q1001 : x9_1 < (l0.length : Int) := of_decide_eq_true (by first | (with_reducible assumption) | assumption)
                obtain ⟨ad1001, e1001, hx1001_0⟩ := Kd.at_int HR0.out x9_1 p1001 q1001
                cases e1001
                replace p1001 := eq_true p1001
                replace q1001 := eq_true q1001
                have p1002 : 0 ≤ (x9_1 : Int) := of_decide_eq_true (by first | (with_reducible assumption) | assumption)
                have q1002 : x9_1 < (l1.length : Int) := of_decide_eq_true (by first | (with_reducible assumption) | assumption)
                obtain ⟨ad1002, e1002, hx1002_0⟩ := Kd.at_int HR1.out x9_1 p1002 q1002
                cases e1002
                replace p1002 := eq_true p1002
                replace q1002 := eq_true q1002
                go_wp2
                go_roundg k1
                case measure => have := HK1.out; omega
                case rel => exact ⟨(wrap64 (x9_1 + 1)), (by first | rfl | (simp; done) | (simp [*]; done)), H', ⟨by have := HK1.out; omega⟩, by repeat (first | exact Drawn0.refl _ | apply Drawn0.step)⟩
              · rw [if_neg c7] at H
                have c7b0 : ((rd l0 x9_1) == (rd l1 x9_1)) = false := beq_eq_false_iff_ne.mpr c7
                have c7b1 : ((rd l0 x9_1) != (rd l1 x9_1)) = true := bne_iff_ne.mpr c7
                obtain rfl := Option.some.inj H
                have p1001 : 0 ≤ (x9_1 : Int) := of_decide_eq_true (by first | (with_reducible assumption) | assumption)
                have q1001 : x9_1 < (l0.length : Int) := of_decide_eq_true (by first | (with_reducible assumption) | assumption)
                obtain ⟨ad1001, e1001, hx1001_0⟩ := Kd.at_int HR0.out x9_1 p1001 q1001
                cases e1001
                replace p1001 := eq_true p1001
                replace q1001 := eq_true q1001
                have p1002 : 0 ≤ (x9_1 : Int) := of_decide_eq_true (by first | (with_reducible assumption) | assumption)
                have q1002 : x9_1 < (l1.length : Int) := of_decide_eq_true (by first | (with_reducible assumption) | assumption)
                obtain ⟨ad1002, e1002, hx1002_0⟩ := Kd.at_int HR1.out x9_1 p1002 q1002
                cases e1002
                replace p1002 := eq_true p1002
                replace q1002 := eq_true q1002
                have p1003 : 0 ≤ (x9_1 : Int) := of_decide_eq_true (by first | (with_reducible assumption) | assumption)
                have q1003 : x9_1 < (l1.length : Int) := of_decide_eq_true (by first | (with_reducible assumption) | assumption)
                obtain ⟨ad1003, e1003, hx1003_0⟩ := Kd.at_int HR1.out x9_1 p1003 q1003
                obtain rfl : ad1002 = ad1003 := (by injection e1003)
                replace p1003 := eq_true p1003
                replace q1003 := eq_true q1003
                go_wp2
                go_ret
                exact ⟨by first | rfl | (simp; done) | (simp [*]; done), by repeat (first | exact Drawn0.refl _ | apply Drawn0.step)⟩
            · rw [if_neg c6] at H
              exact absurd H (by simp)
          · rw [if_neg c5] at H
            exact absurd H (by simp)
        · rw [if_neg c4] at H
          exact absurd H (by simp)
      · rw [if_neg c3] at H
        have c3b0 : decide (x9_1 < (l0.length : Int)) = false := decide_eq_false c3
        clear c3
        obtain rfl := Option.some.inj H
        go_wp2
        go_ret
        exact ⟨by first | rfl | (simp; done) | (simp [*]; done), by repeat (first | exact Drawn0.refl _ | apply Drawn0.step)⟩

end Go.Proofs.Ytpfjnpbcnlbhaaa.P
namespace Go.Proofs.Ytpfjnpbcnlbhaaa.P
open Go.RowKit Go.Proofs.YtpfjnpbcnlbhaaaW.PrintWords Go.Proofs.YtpfjnpbcnlbhaaaW.PrintLast Go.Proofs.YtpfjnpbcnlbhaaaW.PrintMore
attribute [local go_sem] max2_int min2_int max_two min_two max_three min_three max_four min_four   -- for this text's walks alone
set_option linter.unusedVariables false
set_option linter.unusedSimpArgs false

/-! ### sackbutref05_same: function 54 -/
def sackbutref05_same.f (k : Nat) (l0 : List Int) (l1 : List Int) : Option (Bool) := (sackbutref05_less.f k l0 l1).bind fun t1001 => (if t1001 = true then (some false) else ((sackbutref05_less.f k l1 l0).bind fun t1002 => (some (!t1002))))
theorem sackbutref05_same.mono : ∀ a0 a1 k, LeO (sackbutref05_same.f k a0 a1) (sackbutref05_same.f (k + 1) a0 a1) := by
  intro a0 a1 k
  unfold sackbutref05_same.f
  repeat' first
      | (with_reducible exact sackbutref05_less.mono _ _ _)
      | (with_reducible exact LeO.refl _)
      | (with_reducible exact LeO.none _)
      | (with_reducible refine LeO.ite ?_ ?_)
      | (with_reducible refine LeO.bind ?_ (fun _ => ?_))
      | exact sackbutref05_less.mono _ _ _
      | exact LeO.none _
      | refine LeO.ite ?_ ?_
      | refine LeO.bind ?_ (fun _ => ?_)
set_option maxHeartbeats 8000000 in
set_option maxRecDepth 100000 in
theorem sackbutref05_same.calls (k : Nat) (A0 : Option Addr) (c0 : Nat) (l0 : List Int) (A1 : Option Addr) (c1 : Nat) (l1 : List Int) (r : Bool) (w : World) (hr0 : Kd.C (Kd.int .i64) w A0 l0.length l0) (hc0 : l0.length ≤ c0) (hr1 : Kd.C (Kd.int .i64) w A1 l1.length l1) (hc1 : l1.length ≤ c1) (h : sackbutref05_same.f k l0 l1 = some r) :
    Calls Try.prog 54 #[.slice A0 l0.length c0, .slice A1 l1.length c1] w fun e w' => e = .returned (.bool r) ∧ Drawn0 w w' := by
  have HR0 := Aside0.mk hr0
  have HC0 := Aside0.mk hc0
  clear hr0 hc0
  have HR1 := Aside0.mk hr1
  have HC1 := Aside0.mk hc1
  clear hr1 hc1
  have H : ((sackbutref05_less.f k l0 l1).bind fun t1001 => (if t1001 = true then (some false) else ((sackbutref05_less.f k l1 l0).bind fun t1002 => (some (!t1002))))) = some r := h
  clear h
  replace H := Option.bind_eq_some_iff.mp H
  obtain ⟨t1001, A30, H⟩ := H
  replace H : (if t1001 = true then (some false) else ((sackbutref05_less.f k l1 l0).bind fun t1002 => (some (!t1002)))) = some r := H
  have A3 := Aside0.mk A30
  clear A30
  by_cases c4 : t1001 = true
  · subst c4
    have H1 : (some false) = some r := by rw [if_pos rfl] at H; exact H
    clear H
    have H := H1
    clear H1
    obtain rfl := Option.some.inj H
    go_enter Try.func54, Try.ntmps54
    go_wp2_with (first | ((with_reducible refine gate_callee (f := 69) rfl ?_); refine goesL_ (some 7) rfl rfl Try.func69 (by kernel_rfl) rfl #[.slice A0 l0.length c0, .slice A1 l1.length c1] rfl (by (try simp only [List.map_toArray, List.map_cons, List.map_nil]); first | done | rfl | (simp only [List.length_drop, List.length_take]; rfl)) ?_; (with_reducible refine (sackbutref05_less.calls k _ _ l0 _ _ l1 true _ ?side1 ?side2 ?side3 ?side4 A3.out).mono ?_); (case side1 => repeat (first | exact HR0.out | (with_reducible refine Kd.C_alloc ?_ _) | (with_reducible refine Kd.C_drewN ?_ _) | (with_reducible refine Kd.C_drew ?_))); (case side2 => exact HC0.out); (case side3 => repeat (first | exact HR1.out | (with_reducible refine Kd.C_alloc ?_ _) | (with_reducible refine Kd.C_drewN ?_ _) | (with_reducible refine Kd.C_drew ?_))); (case side4 => exact HC1.out); rintro e w' ⟨rfl, ⟨nd, rfl⟩⟩; refine ⟨_, rfl, ?_⟩))
    go_ret
    exact ⟨by first | rfl | (simp; done) | (simp [*]; done), by repeat (first | exact Drawn0.refl _ | apply Drawn0.step)⟩
  · replace c4 := Bool.eq_false_iff.mpr c4
    subst c4
    have H1 : ((sackbutref05_less.f k l1 l0).bind fun t1002 => (some (!t1002))) = some r := by rw [if_neg (show ¬ (false = true) by decide)] at H; exact H
    clear H
    have H := H1
    clear H1
    replace H := Option.bind_eq_some_iff.mp H
    obtain ⟨t1002, A50, H⟩ := H
    replace H : (some (!t1002)) = some r := H
    have A5 := Aside0.mk A50
    clear A50
    obtain rfl := Option.some.inj H
    go_enter Try.func54, Try.ntmps54
    go_wp2_with (first | ((with_reducible refine gate_callee (f := 69) rfl ?_); refine goesL_ (some 7) rfl rfl Try.func69 (by kernel_rfl) rfl #[.slice A0 l0.length c0, .slice A1 l1.length c1] rfl (by (try simp only [List.map_toArray, List.map_cons, List.map_nil]); first | done | rfl | (simp only [List.length_drop, List.length_take]; rfl)) ?_; (with_reducible refine (sackbutref05_less.calls k _ _ l0 _ _ l1 false _ ?side1 ?side2 ?side3 ?side4 A3.out).mono ?_); (case side1 => repeat (first | exact HR0.out | (with_reducible refine Kd.C_alloc ?_ _) | (with_reducible refine Kd.C_drewN ?_ _) | (with_reducible refine Kd.C_drew ?_))); (case side2 => exact HC0.out); (case side3 => repeat (first | exact HR1.out | (with_reducible refine Kd.C_alloc ?_ _) | (with_reducible refine Kd.C_drewN ?_ _) | (with_reducible refine Kd.C_drew ?_))); (case side4 => exact HC1.out); rintro e w' ⟨rfl, ⟨nd, rfl⟩⟩; refine ⟨_, rfl, ?_⟩) | (go_at_call 69; (with_reducible refine (sackbutref05_less.calls k _ _ l1 _ _ l0 t1002 _ ?side1 ?side2 ?side3 ?side4 A5.out).mono ?_); (case side1 => repeat (first | exact HR1.out | (with_reducible refine Kd.C_alloc ?_ _) | (with_reducible refine Kd.C_drewN ?_ _) | (with_reducible refine Kd.C_drew ?_))); (case side2 => exact HC1.out); (case side3 => repeat (first | exact HR0.out | (with_reducible refine Kd.C_alloc ?_ _) | (with_reducible refine Kd.C_drewN ?_ _) | (with_reducible refine Kd.C_drew ?_))); (case side4 => exact HC0.out); rintro e w' ⟨rfl, ⟨nd, rfl⟩⟩))
    go_ret
    exact ⟨by first | rfl | (simp; done) | (simp [*]; done), by repeat (first | exact Drawn0.refl _ | apply Drawn0.step)⟩

end Go.Proofs.Ytpfjnpbcnlbhaaa.P
namespace Go.Proofs.Ytpfjnpbcnlbhaaa.P
open Go.RowKit Go.Proofs.YtpfjnpbcnlbhaaaW.PrintWords Go.Proofs.YtpfjnpbcnlbhaaaW.PrintLast Go.Proofs.YtpfjnpbcnlbhaaaW.PrintMore
attribute [local go_sem] max2_int min2_int max_two min_two max_three min_three max_four min_four   -- for this text's walks alone
set_option linter.unusedVariables false
set_option linter.unusedSimpArgs false

/-! ### sackbutref05_Form: function 55 -/
def sackbutref05_Form.l0 : Nat → List Int → Int → Int → Int → List Int → List Int → Int → Int → Option (List Int)
  | 0, _, _, _, _, _, _, _, _ => none
  | k + 1, x0, x1, x2, x3, x9, x19, x20, x21 => if x21 < x20 then (if 0 ≤ x21 then (if x21 < (x19.length : Int) then (if (Int.tmod x2 2) = 1 then (if x2 ≥ 2 then ((sackbutref05_mod.f (wrap64 ((wrap64 (-(rd x19 x21))) + x3)) x1).bind fun t1006 => (if 0 ≤ (wrap64 ((wrap64 ((x0.length : Int) - 1)) - x21)) then (if (wrap64 ((wrap64 ((x0.length : Int) - 1)) - x21)) < (x9.length : Int) then (sackbutref05_Form.l0 k x0 x1 x2 x3 (x9.set ((wrap64 ((wrap64 ((x0.length : Int) - 1)) - x21)) : Int).toNat t1006) x19 x20 (wrap64 (x21 + 1))) else (none)) else (none))) else ((sackbutref05_mod.f (wrap64 ((wrap64 (-(rd x19 x21))) + x3)) x1).bind fun t1008 => (if x21 < (x9.length : Int) then (sackbutref05_Form.l0 k x0 x1 x2 x3 (x9.set (x21 : Int).toNat t1008) x19 x20 (wrap64 (x21 + 1))) else (none)))) else (if x2 ≥ 2 then ((sackbutref05_mod.f (wrap64 ((rd x19 x21) + x3)) x1).bind fun t1010 => (if 0 ≤ (wrap64 ((wrap64 ((x0.length : Int) - 1)) - x21)) then (if (wrap64 ((wrap64 ((x0.length : Int) - 1)) - x21)) < (x9.length : Int) then (sackbutref05_Form.l0 k x0 x1 x2 x3 (x9.set ((wrap64 ((wrap64 ((x0.length : Int) - 1)) - x21)) : Int).toNat t1010) x19 x20 (wrap64 (x21 + 1))) else (none)) else (none))) else ((sackbutref05_mod.f (wrap64 ((rd x19 x21) + x3)) x1).bind fun t1012 => (if x21 < (x9.length : Int) then (sackbutref05_Form.l0 k x0 x1 x2 x3 (x9.set (x21 : Int).toNat t1012) x19 x20 (wrap64 (x21 + 1))) else (none))))) else (none)) else (none)) else (some x9)
def sackbutref05_Form.f (k : Nat) (l0 : List Int) (a1 : Int) (a2 : Int) (a3 : Int) : Option (List Int) := (sackbutref05_mod.f a3 a1).bind fun t1001 => (if 0 ≤ (l0.length : Int) then (if ((l0.length : Int) : Int).toNat ≤ 35184372088832 then (sackbutref05_Form.l0 k l0 a1 a2 t1001 (List.replicate ((l0.length : Int) : Int).toNat 0) l0 (l0.length : Int) 0) else (none)) else (none))
theorem sackbutref05_Form.mono_l : ∀ k, (∀ y0 y1 y2 y3 y4 y5 y6 y7, LeO (sackbutref05_Form.l0 k y0 y1 y2 y3 y4 y5 y6 y7) (sackbutref05_Form.l0 (k + 1) y0 y1 y2 y3 y4 y5 y6 y7))
  | 0 => fun _ _ _ _ _ _ _ _ r h => by simp [sackbutref05_Form.l0] at h
  | k + 1 => by
    have ih0 := sackbutref05_Form.mono_l k
    · intro y0 y1 y2 y3 y4 y5 y6 y7
      unfold sackbutref05_Form.l0
      repeat' first
      | (with_reducible exact ih0 _ _ _ _ _ _ _ _)
      | (with_reducible exact LeO.refl _)
      | (with_reducible exact LeO.none _)
      | (with_reducible refine LeO.ite ?_ ?_)
      | (with_reducible refine LeO.bind ?_ (fun _ => ?_))
      | exact ih0 _ _ _ _ _ _ _ _
      | exact LeO.none _
      | refine LeO.ite ?_ ?_
      | refine LeO.bind ?_ (fun _ => ?_)
theorem sackbutref05_Form.mono : ∀ a0 a1 a2 a3 k, LeO (sackbutref05_Form.f k a0 a1 a2 a3) (sackbutref05_Form.f (k + 1) a0 a1 a2 a3) := by
  intro a0 a1 a2 a3 k
  have ih0 := sackbutref05_Form.mono_l k
  unfold sackbutref05_Form.f
  repeat' first
      | (with_reducible exact ih0 _ _ _ _ _ _ _ _)
      | (with_reducible exact LeO.refl _)
      | (with_reducible exact LeO.none _)
      | (with_reducible refine LeO.ite ?_ ?_)
      | (with_reducible refine LeO.bind ?_ (fun _ => ?_))
      | exact ih0 _ _ _ _ _ _ _ _
      | exact LeO.none _
      | refine LeO.ite ?_ ?_
      | refine LeO.bind ?_ (fun _ => ?_)
set_option maxHeartbeats 8000000 in
set_option maxRecDepth 100000 in
theorem sackbutref05_Form.calls (k : Nat) (A0 : Option Addr) (c0 : Nat) (l0 : List Int) (a1 : Int) (a2 : Int) (a3 : Int) (r : List Int) (w : World) (hr0 : Kd.C (Kd.int .i64) w A0 l0.length l0) (hc0 : l0.length ≤ c0) (h : sackbutref05_Form.f k l0 a1 a2 a3 = some r) :
    Calls Try.prog 55 #[.slice A0 l0.length c0, .int .i64 a1, .int .i64 a2, .int .i64 a3] w fun e w' => ∃ v0_ : Value, e = .returned (v0_) ∧ Kd.R (Kd.int .i64) 3 w' w.heap.size (fun _ => True) v0_ r ∧ Below w.heap.size w w' := by
  have HR0 := Aside0.mk hr0
  have HC0 := Aside0.mk hc0
  clear hr0 hc0
  have HB := Aside0.mk (Below.refl w.heap.size w)
  have H : ((sackbutref05_mod.f a3 a1).bind fun t1001 => (if 0 ≤ (l0.length : Int) then (if ((l0.length : Int) : Int).toNat ≤ 35184372088832 then (sackbutref05_Form.l0 k l0 a1 a2 t1001 (List.replicate ((l0.length : Int) : Int).toNat 0) l0 (l0.length : Int) 0) else (none)) else (none))) = some r := h
  clear h
  replace H := Option.bind_eq_some_iff.mp H
  obtain ⟨t1001, A50, H⟩ := H
  replace H : (if 0 ≤ (l0.length : Int) then (if ((l0.length : Int) : Int).toNat ≤ 35184372088832 then (sackbutref05_Form.l0 k l0 a1 a2 t1001 (List.replicate ((l0.length : Int) : Int).toNat 0) l0 (l0.length : Int) 0) else (none)) else (none)) = some r := H
  have A5 := Aside0.mk A50
  clear A50
  by_cases c6 : 0 ≤ (l0.length : Int)
  · rw [if_pos c6] at H
    have c6b0 := eq_true c6
    have c6b1 : decide (0 ≤ (l0.length : Int)) = true := decide_eq_true c6
    clear c6
    by_cases c7 : ((l0.length : Int) : Int).toNat ≤ 35184372088832
    · rw [if_pos c7] at H
      have c7b0 := eq_true c7
      have c7b1 : decide (((l0.length : Int) : Int).toNat ≤ 35184372088832) = true := decide_eq_true c7
      clear c7
      obtain ⟨y1002, hy1002⟩ : ∃ y_ : List Int, y_ = (List.replicate ((l0.length : Int) : Int).toNat 0) := ⟨_, rfl⟩
      replace H : (sackbutref05_Form.l0 k l0 a1 a2 t1001 y1002 l0 (l0.length : Int) 0) = some r := by first | (rw [hy1002]; with_reducible exact H) | (have H2_ := (Option.bind_some _ _).symm.trans H; rw [hy1002]; with_reducible exact H2_) | (have H2_ := (Option.bind_some _ _).symm.trans H; with_reducible exact H2_) | with_reducible exact H | (rw [hy1002]; exact H) | exact H
      have Ny1002 := Aside0.mk hy1002
      clear hy1002
      have H' := Aside0.mk H
      clear H
      go_enter Try.func55, Try.ntmps55
      go_wp2_with (first | ((with_reducible refine gate_callee (f := 49) rfl ?_); refine goesL_ (some 15) rfl rfl Try.func49 (by kernel_rfl) rfl #[.int .i64 a3, .int .i64 a1] rfl (by (try simp only [List.map_toArray, List.map_cons, List.map_nil]); first | done | rfl | (simp only [List.length_drop, List.length_take]; rfl)) ?_; (with_reducible refine (sackbutref05_mod.calls a3 a1 t1001 _ A5.out).mono ?_); rintro e w' ⟨rfl, ⟨nd, rfl⟩⟩; refine ⟨_, rfl, ?_⟩) | ((with_reducible refine gate_dst (N := 18) rfl ?_); refine Kd.R_make (Kd.int .i64) _ 3 rfl (N := 18) rfl 22 _ _ rfl (l0.length : Int) rfl rfl Try.underlying22 (.int .i64 0) 8 info3 rfl (by decide) (by omega) 0 (ok := fun _ => True) (okp := fun _ => True) rfl (fun _ hk => hk) trivial (of_decide_eq_true (by first | (with_reducible assumption) | assumption)) (Nat.le_trans (Nat.mul_le_mul_right _ (of_decide_eq_true (by first | (with_reducible assumption) | assumption) : (l0.length : Int).toNat ≤ 35184372088832)) (by omega)) (Below.refl _ _) (Nat.le_refl _) ?_; intro v1003 w8 ho9 hb hg_ hnew_; clear hg_ hnew_; (first | rw [← Ny1002.out] at ho9 | (simp only [Int.reduceToNat] at ho9; rw [← Ny1002.out] at ho9)); have n0_ := Aside0.mk (Kd.R_lower ho9 (below_size (by repeat (first | (with_reducible first | exact HB.out | apply below_alloc | apply pw_below_drewN | apply below_drew1) | exact HB.out)))); have n1_ := Aside0.mk (below_step (by repeat (first | (with_reducible first | exact HB.out | apply below_alloc | apply pw_below_drewN | apply below_drew1) | exact HB.out)) hb); clear HB; have HO1004 := n0_; have HB := n1_; clear n0_ n1_; clear hb ho9))
      go_loopg [21] k (fun kq v21 w' => ∃ (x9_1 : List Int) (x21_1 : Int), v21 = .int .i64 x21_1 ∧ Aside0 (sackbutref05_Form.l0 kq l0 a1 a2 t1001 x9_1 l0 (l0.length : Int) x21_1 = some r) ∧ Aside0 (kq ≤ k) ∧ Aside0 (Kd.R (Kd.int .i64) 3 w' w.heap.size (fun _ => True) v1003 x9_1) ∧ Aside0 (Below w.heap.size w w'))
      case atStart => exact ⟨(y1002), (0), (by first | rfl | (simp; done) | (simp [*]; done)), H', ⟨Nat.le_refl _⟩, ⟨by (with_reducible repeat (first | apply Kd.R_alloc | apply Kd.R_drewN | apply Kd.R_drew)); exact HO1004.out⟩, ⟨by repeat (first | (with_reducible first | exact HB.out | apply below_alloc | apply pw_below_drewN | apply below_drew1) | exact HB.out)⟩⟩
      case round =>
        clear H'
        try clear p2
        try clear c4
        try clear c5
        try clear c6
        try clear c6b0
        try clear c6b1
        try clear c7
        try clear c7b0
        try clear c7b1
        obtain ⟨x9_1, x21_1, rfl, HA, HK1, HO_9, HB⟩ := hrel
        cases gk with
        | zero => exact absurd HA.out (by simp [sackbutref05_Form.l0])
        | succ k1 =>
          have H := HA.out
          clear HA
          simp only [sackbutref05_Form.l0] at H
          by_cases c10 : x21_1 < (l0.length : Int)
          · rw [if_pos c10] at H
            have c10b0 : decide (x21_1 < (l0.length : Int)) = true := decide_eq_true c10
            clear c10
            by_cases c11 : 0 ≤ x21_1
            · rw [if_pos c11] at H
              have c11b0 : decide (0 ≤ x21_1) = true := decide_eq_true c11
              clear c11
              by_cases c12 : x21_1 < (l0.length : Int)
              · rw [if_pos c12] at H
                have c12b0 : decide (x21_1 < (l0.length : Int)) = true := decide_eq_true c12
                clear c12
                by_cases c13 : (Int.tmod a2 2) = 1
                · rw [if_pos c13] at H
                  have c13b0 : ((Int.tmod a2 2) == 1) = true := beq_iff_eq.mpr c13
                  have c13b1 : ((Int.tmod a2 2) != 1) = false := bne_eq_false_iff_eq.mpr c13
                  clear c13
                  by_cases c14 : a2 ≥ 2
                  · rw [if_pos c14] at H
                    have c14b0 : decide (2 ≤ a2) = true := decide_eq_true c14
                    clear c14
                    replace H := Option.bind_eq_some_iff.mp H
                    obtain ⟨t1006, A150, H⟩ := H
                    replace H : (if 0 ≤ (wrap64 ((wrap64 ((l0.length : Int) - 1)) - x21_1)) then (if (wrap64 ((wrap64 ((l0.length : Int) - 1)) - x21_1)) < (x9_1.length : Int) then (sackbutref05_Form.l0 k1 l0 a1 a2 t1001 (x9_1.set ((wrap64 ((wrap64 ((l0.length : Int) - 1)) - x21_1)) : Int).toNat t1006) l0 (l0.length : Int) (wrap64 (x21_1 + 1))) else (none)) else (none)) = some r := H
                    have A15 := Aside0.mk A150
                    clear A150
                    obtain ⟨ji16, hji16⟩ : ∃ j_ : Int, (wrap64 ((wrap64 ((l0.length : Int) - 1)) - x21_1)) = j_ := ⟨_, rfl⟩
                    replace H : (if 0 ≤ (ji16) then (if (ji16) < (x9_1.length : Int) then (sackbutref05_Form.l0 k1 l0 a1 a2 t1001 (x9_1.set ((ji16) : Int).toNat t1006) l0 (l0.length : Int) (wrap64 (x21_1 + 1))) else (none)) else (none)) = some r := by first | (rw [hji16] at H; exact H) | (simp only [hji16] at H ⊢; exact H)
                    (try rw [hji16] at A15)
                    have hji16w : (IntKind.i64.wrap ((wrap64 ((l0.length : Int) - 1)) - x21_1)) = ji16 := (i64_w _).trans hji16
                    by_cases c17 : 0 ≤ (ji16)
                    · rw [if_pos c17] at H
                      have c17b0 : decide (0 ≤ (ji16)) = true := decide_eq_true c17
                      clear c17
                      by_cases c18 : (ji16) < (x9_1.length : Int)
                      · rw [if_pos c18] at H
                        have c18b0 : decide ((ji16) < (x9_1.length : Int)) = true := decide_eq_true c18
                        clear c18
                        obtain ⟨y1007, hy1007⟩ : ∃ y_ : List Int, y_ = (x9_1.set ((ji16) : Int).toNat t1006) := ⟨_, rfl⟩
                        replace H : (sackbutref05_Form.l0 k1 l0 a1 a2 t1001 y1007 l0 (l0.length : Int) (wrap64 (x21_1 + 1))) = some r := by first | (rw [hy1007]; with_reducible exact H) | (have H2_ := (Option.bind_some _ _).symm.trans H; rw [hy1007]; with_reducible exact H2_) | (have H2_ := (Option.bind_some _ _).symm.trans H; with_reducible exact H2_) | with_reducible exact H | (rw [hy1007]; exact H) | exact H
                        have Ny1007 := Aside0.mk hy1007
                        clear hy1007
                        have H' := Aside0.mk H
                        clear H
                        have p1005 : 0 ≤ (x21_1 : Int) := of_decide_eq_true (by first | (with_reducible assumption) | assumption)
                        have q1005 : x21_1 < (l0.length : Int) := of_decide_eq_true (by first | (with_reducible assumption) | assumption)
                        obtain ⟨ad1005, e1005, hx1005_0⟩ := Kd.at_int HR0.out x21_1 p1005 q1005
                        cases e1005
                        replace hx1005_0 := (HB.out.cell (World.block_lt_of_cell? w _ hx1005_0)).trans hx1005_0
                        replace p1005 := eq_true p1005
                        replace q1005 := eq_true q1005
                        go_wp2_with (first | ((with_reducible refine gate_callee (f := 49) rfl ?_); refine goesL_ (some 45) rfl rfl Try.func49 (by kernel_rfl) rfl #[.int .i64 (wrap64 ((wrap64 (-(rd l0 x21_1))) + t1001)), .int .i64 a1] rfl (by (try simp only [List.map_toArray, List.map_cons, List.map_nil]); first | done | rfl | (simp only [List.length_drop, List.length_take]; rfl)) ?_; (with_reducible refine (sackbutref05_mod.calls (wrap64 ((wrap64 (-(rd l0 x21_1))) + t1001)) a1 t1006 _ A15.out).mono ?_); rintro e w' ⟨rfl, ⟨nd, rfl⟩⟩; refine ⟨_, rfl, ?_⟩; (try (rw [drewN_self wr]; generalize hq_ : World.drewN wr _ = wr; have n0_ : Aside0 (Kd.R (Kd.int .i64) 3 wr w.heap.size (fun _ => True) v1003 x9_1) := ⟨by rw [← hq_]; exact (by (with_reducible repeat (first | apply Kd.R_alloc | apply Kd.R_drewN | apply Kd.R_drew)); exact HO_9.out)⟩; have n1_ : Aside0 (Below w.heap.size w wr) := ⟨by rw [← hq_]; exact (by repeat (first | (with_reducible first | exact HB.out | apply below_alloc | apply pw_below_drewN | apply below_drew1) | exact HB.out))⟩; clear HO_9 HB hq_; have HO_9 := n0_; have HB := n1_; clear n0_ n1_)); have p19 : 0 ≤ ((ji16) : Int) := of_decide_eq_true (by first | (with_reducible assumption) | assumption); have q19 : ((ji16) : Int) < ((x9_1.length : Int) : Int) := of_decide_eq_true (by first | (with_reducible assumption) | assumption); obtain ⟨go19, co19, eo19, gb19, gl19, cl19, HG19⟩ := Kd.R_form HO_9.out (by omega); (first | cases eo19 | (injection eo19 with ea_ en_ ec_; (first | subst ea_ | (injection ea_ with ea_; subst ea_)); subst ec_; clear en_)); have GB19 := Aside0.mk gb19; have GG19 := Aside0.mk HG19; clear gb19 gl19 HG19; obtain ⟨hx19_0, hf19_0⟩ := Kd.R_celln 0 HO_9.out ((ji16) : Int) p19 q19; replace p19 := eq_true p19; replace q19 := eq_true q19; obtain ⟨hy20_, hz20_⟩ := Kd.R_celln 0 HO_9.out ((ji16) : Int) (of_decide_eq_true (by first | (with_reducible assumption) | assumption)) (of_decide_eq_true (by first | (with_reducible assumption) | assumption)); have HP20 := Kd.R_putg HO_9.out ((ji16) : Int) t1006) | ((with_reducible refine gate_store (t := 3) (p := 46) rfl ?_); refine store_event (t := 3) (p := 46) (v := ?vo_w21) (w1 := (wr.setCell ⟨go19, ((ji16) : Int).toNat, none⟩ (.int .i64 t1006))) ?hg ?ho ?hn ?hr ?_; (case ho => rfl); (case hg => rfl); (case hn => rfl); (case hr => first | (go_simp; done) | (go_simp; rfl)); intro w21 hw; have hg : wr.grownBy w21 (some go19) := (by rw [hw]; exact HP20.2); have hp_ : Kd.R (Kd.int .i64) 3 w21 w.heap.size (fun _ => True) (.slice (some ⟨go19, 0, none⟩) x9_1.length co19) y1007 := (by rw [hw, Ny1007.out]; exact HP20.1); clear HP20; have n0_ := Aside0.mk (hp_); have n1_ := Aside0.mk ((by rw [hw]; exact below_set (HB.out) GB19.out : Below w.heap.size w w21)); clear HO_9; clear HB; have HO_9 := n0_; have HB := n1_; clear n0_ n1_; clear hg hw hp_))
                        go_roundg k1
                        case measure => have := HK1.out; omega
                        case rel => exact ⟨(y1007), (wrap64 (x21_1 + 1)), (by first | rfl | (simp; done) | (simp [*]; done)), H', ⟨by have := HK1.out; omega⟩, ⟨by (with_reducible repeat (first | apply Kd.R_alloc | apply Kd.R_drewN | apply Kd.R_drew)); exact HO_9.out⟩, ⟨by repeat (first | (with_reducible first | exact HB.out | apply below_alloc | apply pw_below_drewN | apply below_drew1) | exact HB.out)⟩⟩
                      · rw [if_neg c18] at H
                        exact absurd H (by simp)
                    · rw [if_neg c17] at H
                      exact absurd H (by simp)
                  · rw [if_neg c14] at H
                    have c14b0 : decide (2 ≤ a2) = false := decide_eq_false c14
                    clear c14
                    replace H := Option.bind_eq_some_iff.mp H
                    obtain ⟨t1008, A220, H⟩ := H
                    replace H : (if x21_1 < (x9_1.length : Int) then (sackbutref05_Form.l0 k1 l0 a1 a2 t1001 (x9_1.set (x21_1 : Int).toNat t1008) l0 (l0.length : Int) (wrap64 (x21_1 + 1))) else (none)) = some r := H
                    have A22 := Aside0.mk A220
                    clear A220
                    by_cases c23 : x21_1 < (x9_1.length : Int)
                    · rw [if_pos c23] at H
                      have c23b0 : decide (x21_1 < (x9_1.length : Int)) = true := decide_eq_true c23
                      clear c23
                      obtain ⟨y1009, hy1009⟩ : ∃ y_ : List Int, y_ = (x9_1.set (x21_1 : Int).toNat t1008) := ⟨_, rfl⟩
                      replace H : (sackbutref05_Form.l0 k1 l0 a1 a2 t1001 y1009 l0 (l0.length : Int) (wrap64 (x21_1 + 1))) = some r := by first | (rw [hy1009]; with_reducible exact H) | (have H2_ := (Option.bind_some _ _).symm.trans H; rw [hy1009]; with_reducible exact H2_) | (have H2_ := (Option.bind_some _ _).symm.trans H; with_reducible exact H2_) | with_reducible exact H | (rw [hy1009]; exact H) | exact H
                      have Ny1009 := Aside0.mk hy1009
                      clear hy1009
                      have H' := Aside0.mk H
                      clear H
                      have p1005 : 0 ≤ (x21_1 : Int) := of_decide_eq_true (by first | (with_reducible assumption) | assumption)
                      have q1005 : x21_1 < (l0.length : Int) := of_decide_eq_true (by first | (with_reducible assumption) | assumption)
                      obtain ⟨ad1005, e1005, hx1005_0⟩ := Kd.at_int HR0.out x21_1 p1005 q1005
                      cases e1005
                      replace hx1005_0 := (HB.out.cell (World.block_lt_of_cell? w _ hx1005_0)).trans hx1005_0
                      replace p1005 := eq_true p1005
                      replace q1005 := eq_true q1005
                      go_wp2_with (first | ((with_reducible refine gate_callee (f := 49) rfl ?_); refine goesL_ (some 45) rfl rfl Try.func49 (by kernel_rfl) rfl #[.int .i64 (wrap64 ((wrap64 (-(rd l0 x21_1))) + t1001)), .int .i64 a1] rfl (by (try simp only [List.map_toArray, List.map_cons, List.map_nil]); first | done | rfl | (simp only [List.length_drop, List.length_take]; rfl)) ?_; (with_reducible refine (sackbutref05_mod.calls (wrap64 ((wrap64 (-(rd l0 x21_1))) + t1001)) a1 t1008 _ A22.out).mono ?_); rintro e w' ⟨rfl, ⟨nd, rfl⟩⟩; refine ⟨_, rfl, ?_⟩; (try (rw [drewN_self wr]; generalize hq_ : World.drewN wr _ = wr; have n0_ : Aside0 (Kd.R (Kd.int .i64) 3 wr w.heap.size (fun _ => True) v1003 x9_1) := ⟨by rw [← hq_]; exact (by (with_reducible repeat (first | apply Kd.R_alloc | apply Kd.R_drewN | apply Kd.R_drew)); exact HO_9.out)⟩; have n1_ : Aside0 (Below w.heap.size w wr) := ⟨by rw [← hq_]; exact (by repeat (first | (with_reducible first | exact HB.out | apply below_alloc | apply pw_below_drewN | apply below_drew1) | exact HB.out))⟩; clear HO_9 HB hq_; have HO_9 := n0_; have HB := n1_; clear n0_ n1_)); have p24 : 0 ≤ (x21_1 : Int) := of_decide_eq_true (by first | (with_reducible assumption) | assumption); have q24 : (x21_1 : Int) < ((x9_1.length : Int) : Int) := of_decide_eq_true (by first | (with_reducible assumption) | assumption); obtain ⟨go24, co24, eo24, gb24, gl24, cl24, HG24⟩ := Kd.R_form HO_9.out (by omega); (first | cases eo24 | (injection eo24 with ea_ en_ ec_; (first | subst ea_ | (injection ea_ with ea_; subst ea_)); subst ec_; clear en_)); have GB24 := Aside0.mk gb24; have GG24 := Aside0.mk HG24; clear gb24 gl24 HG24; obtain ⟨hx24_0, hf24_0⟩ := Kd.R_celln 0 HO_9.out (x21_1 : Int) p24 q24; replace p24 := eq_true p24; replace q24 := eq_true q24; obtain ⟨hy25_, hz25_⟩ := Kd.R_celln 0 HO_9.out (x21_1 : Int) (of_decide_eq_true (by first | (with_reducible assumption) | assumption)) (of_decide_eq_true (by first | (with_reducible assumption) | assumption)); have HP25 := Kd.R_putg HO_9.out (x21_1 : Int) t1008) | ((with_reducible refine gate_store (t := 3) (p := 46) rfl ?_); refine store_event (t := 3) (p := 46) (v := ?vo_w26) (w1 := (wr.setCell ⟨go24, (x21_1 : Int).toNat, none⟩ (.int .i64 t1008))) ?hg ?ho ?hn ?hr ?_; (case ho => rfl); (case hg => rfl); (case hn => rfl); (case hr => first | (go_simp; done) | (go_simp; rfl)); intro w26 hw; have hg : wr.grownBy w26 (some go24) := (by rw [hw]; exact HP25.2); have hp_ : Kd.R (Kd.int .i64) 3 w26 w.heap.size (fun _ => True) (.slice (some ⟨go24, 0, none⟩) x9_1.length co24) y1009 := (by rw [hw, Ny1009.out]; exact HP25.1); clear HP25; have n0_ := Aside0.mk (hp_); have n1_ := Aside0.mk ((by rw [hw]; exact below_set (HB.out) GB24.out : Below w.heap.size w w26)); clear HO_9; clear HB; have HO_9 := n0_; have HB := n1_; clear n0_ n1_; clear hg hw hp_))
                      go_roundg k1
                      case measure => have := HK1.out; omega
                      case rel => exact ⟨(y1009), (wrap64 (x21_1 + 1)), (by first | rfl | (simp; done) | (simp [*]; done)), H', ⟨by have := HK1.out; omega⟩, ⟨by (with_reducible repeat (first | apply Kd.R_alloc | apply Kd.R_drewN | apply Kd.R_drew)); exact HO_9.out⟩, ⟨by repeat (first | (with_reducible first | exact HB.out | apply below_alloc | apply pw_below_drewN | apply below_drew1) | exact HB.out)⟩⟩
                    · rw [if_neg c23] at H
                      exact absurd H (by simp)
                · rw [if_neg c13] at H
                  have c13b0 : ((Int.tmod a2 2) == 1) = false := beq_eq_false_iff_ne.mpr c13
                  have c13b1 : ((Int.tmod a2 2) != 1) = true := bne_iff_ne.mpr c13
                  by_cases c27 : a2 ≥ 2
                  · rw [if_pos c27] at H
                    have c27b0 : decide (2 ≤ a2) = true := decide_eq_true c27
                    clear c27
                    replace H := Option.bind_eq_some_iff.mp H
                    obtain ⟨t1010, A280, H⟩ := H
                    replace H : (if 0 ≤ (wrap64 ((wrap64 ((l0.length : Int) - 1)) - x21_1)) then (if (wrap64 ((wrap64 ((l0.length : Int) - 1)) - x21_1)) < (x9_1.length : Int) then (sackbutref05_Form.l0 k1 l0 a1 a2 t1001 (x9_1.set ((wrap64 ((wrap64 ((l0.length : Int) - 1)) - x21_1)) : Int).toNat t1010) l0 (l0.length : Int) (wrap64 (x21_1 + 1))) else (none)) else (none)) = some r := H
                    have A28 := Aside0.mk A280
                    clear A280
                    obtain ⟨ji29, hji29⟩ : ∃ j_ : Int, (wrap64 ((wrap64 ((l0.length : Int) - 1)) - x21_1)) = j_ := ⟨_, rfl⟩
                    replace H : (if 0 ≤ (ji29) then (if (ji29) < (x9_1.length : Int) then (sackbutref05_Form.l0 k1 l0 a1 a2 t1001 (x9_1.set ((ji29) : Int).toNat t1010) l0 (l0.length : Int) (wrap64 (x21_1 + 1))) else (none)) else (none)) = some r := by first | (rw [hji29] at H; exact H) | (simp only [hji29] at H ⊢; exact H)
                    (try rw [hji29] at A28)
                    have hji29w : (IntKind.i64.wrap ((wrap64 ((l0.length : Int) - 1)) - x21_1)) = ji29 := (i64_w _).trans hji29
                    by_cases c30 : 0 ≤ (ji29)
                    · rw [if_pos c30] at H
                      have c30b0 : decide (0 ≤ (ji29)) = true := decide_eq_true c30
                      clear c30
                      by_cases c31 : (ji29) < (x9_1.length : Int)
                      · rw [if_pos c31] at H
                        have c31b0 : decide ((ji29) < (x9_1.length : Int)) = true := decide_eq_true c31
                        clear c31
                        obtain ⟨y1011, hy1011⟩ : ∃ y_ : List Int, y_ = (x9_1.set ((ji29) : Int).toNat t1010) := ⟨_, rfl⟩
                        replace H : (sackbutref05_Form.l0 k1 l0 a1 a2 t1001 y1011 l0 (l0.length : Int) (wrap64 (x21_1 + 1))) = some r := by first | (rw [hy1011]; with_reducible exact H) | (have H2_ := (Option.bind_some _ _).symm.trans H; rw [hy1011]; with_reducible exact H2_) | (have H2_ := (Option.bind_some _ _).symm.trans H; with_reducible exact H2_) | with_reducible exact H | (rw [hy1011]; exact H) | exact H
                        have Ny1011 := Aside0.mk hy1011
                        clear hy1011
                        have H' := Aside0.mk H
                        clear H
                        have p1005 : 0 ≤ (x21_1 : Int) := of_decide_eq_true (by first | (with_reducible assumption) | assumption)
                        have q1005 : x21_1 < (l0.length : Int) := of_decide_eq_true (by first | (with_reducible assumption) | assumption)
                        obtain ⟨ad1005, e1005, hx1005_0⟩ := Kd.at_int HR0.out x21_1 p1005 q1005
                        cases e1005
                        replace hx1005_0 := (HB.out.cell (World.block_lt_of_cell? w _ hx1005_0)).trans hx1005_0
                        replace p1005 := eq_true p1005
                        replace q1005 := eq_true q1005
                        go_wp2_with (first | ((with_reducible refine gate_callee (f := 49) rfl ?_); refine goesL_ (some 45) rfl rfl Try.func49 (by kernel_rfl) rfl #[.int .i64 (wrap64 ((rd l0 x21_1) + t1001)), .int .i64 a1] rfl (by (try simp only [List.map_toArray, List.map_cons, List.map_nil]); first | done | rfl | (simp only [List.length_drop, List.length_take]; rfl)) ?_; (with_reducible refine (sackbutref05_mod.calls (wrap64 ((rd l0 x21_1) + t1001)) a1 t1010 _ A28.out).mono ?_); rintro e w' ⟨rfl, ⟨nd, rfl⟩⟩; refine ⟨_, rfl, ?_⟩; (try (rw [drewN_self wr]; generalize hq_ : World.drewN wr _ = wr; have n0_ : Aside0 (Kd.R (Kd.int .i64) 3 wr w.heap.size (fun _ => True) v1003 x9_1) := ⟨by rw [← hq_]; exact (by (with_reducible repeat (first | apply Kd.R_alloc | apply Kd.R_drewN | apply Kd.R_drew)); exact HO_9.out)⟩; have n1_ : Aside0 (Below w.heap.size w wr) := ⟨by rw [← hq_]; exact (by repeat (first | (with_reducible first | exact HB.out | apply below_alloc | apply pw_below_drewN | apply below_drew1) | exact HB.out))⟩; clear HO_9 HB hq_; have HO_9 := n0_; have HB := n1_; clear n0_ n1_)); have p32 : 0 ≤ ((ji29) : Int) := of_decide_eq_true (by first | (with_reducible assumption) | assumption); have q32 : ((ji29) : Int) < ((x9_1.length : Int) : Int) := of_decide_eq_true (by first | (with_reducible assumption) | assumption); obtain ⟨go32, co32, eo32, gb32, gl32, cl32, HG32⟩ := Kd.R_form HO_9.out (by omega); (first | cases eo32 | (injection eo32 with ea_ en_ ec_; (first | subst ea_ | (injection ea_ with ea_; subst ea_)); subst ec_; clear en_)); have GB32 := Aside0.mk gb32; have GG32 := Aside0.mk HG32; clear gb32 gl32 HG32; obtain ⟨hx32_0, hf32_0⟩ := Kd.R_celln 0 HO_9.out ((ji29) : Int) p32 q32; replace p32 := eq_true p32; replace q32 := eq_true q32; obtain ⟨hy33_, hz33_⟩ := Kd.R_celln 0 HO_9.out ((ji29) : Int) (of_decide_eq_true (by first | (with_reducible assumption) | assumption)) (of_decide_eq_true (by first | (with_reducible assumption) | assumption)); have HP33 := Kd.R_putg HO_9.out ((ji29) : Int) t1010) | ((with_reducible refine gate_store (t := 3) (p := 46) rfl ?_); refine store_event (t := 3) (p := 46) (v := ?vo_w34) (w1 := (wr.setCell ⟨go32, ((ji29) : Int).toNat, none⟩ (.int .i64 t1010))) ?hg ?ho ?hn ?hr ?_; (case ho => rfl); (case hg => rfl); (case hn => rfl); (case hr => first | (go_simp; done) | (go_simp; rfl)); intro w34 hw; have hg : wr.grownBy w34 (some go32) := (by rw [hw]; exact HP33.2); have hp_ : Kd.R (Kd.int .i64) 3 w34 w.heap.size (fun _ => True) (.slice (some ⟨go32, 0, none⟩) x9_1.length co32) y1011 := (by rw [hw, Ny1011.out]; exact HP33.1); clear HP33; have n0_ := Aside0.mk (hp_); have n1_ := Aside0.mk ((by rw [hw]; exact below_set (HB.out) GB32.out : Below w.heap.size w w34)); clear HO_9; clear HB; have HO_9 := n0_; have HB := n1_; clear n0_ n1_; clear hg hw hp_))
                        go_roundg k1
                        case measure => have := HK1.out; omega
                        case rel => exact ⟨(y1011), (wrap64 (x21_1 + 1)), (by first | rfl | (simp; done) | (simp [*]; done)), H', ⟨by have := HK1.out; omega⟩, ⟨by (with_reducible repeat (first | apply Kd.R_alloc | apply Kd.R_drewN | apply Kd.R_drew)); exact HO_9.out⟩, ⟨by repeat (first | (with_reducible first | exact HB.out | apply below_alloc | apply pw_below_drewN | apply below_drew1) | exact HB.out)⟩⟩
                      · rw [if_neg c31] at H
                        exact absurd H (by simp)
                    · rw [if_neg c30] at H
                      exact absurd H (by simp)
                  · rw [if_neg c27] at H
                    have c27b0 : decide (2 ≤ a2) = false := decide_eq_false c27
                    clear c27
                    replace H := Option.bind_eq_some_iff.mp H
                    obtain ⟨t1012, A350, H⟩ := H
                    replace H : (if x21_1 < (x9_1.length : Int) then (sackbutref05_Form.l0 k1 l0 a1 a2 t1001 (x9_1.set (x21_1 : Int).toNat t1012) l0 (l0.length : Int) (wrap64 (x21_1 + 1))) else (none)) = some r := H
                    have A35 := Aside0.mk A350
                    clear A350
                    by_cases c36 : x21_1 < (x9_1.length : Int)
                    · rw [if_pos c36] at H
                      have c36b0 : decide (x21_1 < (x9_1.length : Int)) = true := decide_eq_true c36
                      clear c36
                      obtain ⟨y1013, hy1013⟩ : ∃ y_ : List Int, y_ = (x9_1.set (x21_1 : Int).toNat t1012) := ⟨_, rfl⟩
                      replace H : (sackbutref05_Form.l0 k1 l0 a1 a2 t1001 y1013 l0 (l0.length : Int) (wrap64 (x21_1 + 1))) = some r := by first | (rw [hy1013]; with_reducible exact H) | (have H2_ := (Option.bind_some _ _).symm.trans H; rw [hy1013]; with_reducible exact H2_) | (have H2_ := (Option.bind_some _ _).symm.trans H; with_reducible exact H2_) | with_reducible exact H | (rw [hy1013]; exact H) | exact H
                      have Ny1013 := Aside0.mk hy1013
                      clear hy1013
                      have H' := Aside0.mk H
                      clear H
                      have p1005 : 0 ≤ (x21_1 : Int) := of_decide_eq_true (by first | (with_reducible assumption) | assumption)
                      have q1005 : x21_1 < (l0.length : Int) := of_decide_eq_true (by first | (with_reducible assumption) | assumption)
                      obtain ⟨ad1005, e1005, hx1005_0⟩ := Kd.at_int HR0.out x21_1 p1005 q1005
                      cases e1005
                      replace hx1005_0 := (HB.out.cell (World.block_lt_of_cell? w _ hx1005_0)).trans hx1005_0
                      replace p1005 := eq_true p1005
                      replace q1005 := eq_true q1005
                      go_wp2_with (first | ((with_reducible refine gate_callee (f := 49) rfl ?_); refine goesL_ (some 45) rfl rfl Try.func49 (by kernel_rfl) rfl #[.int .i64 (wrap64 ((rd l0 x21_1) + t1001)), .int .i64 a1] rfl (by (try simp only [List.map_toArray, List.map_cons, List.map_nil]); first | done | rfl | (simp only [List.length_drop, List.length_take]; rfl)) ?_; (with_reducible refine (sackbutref05_mod.calls (wrap64 ((rd l0 x21_1) + t1001)) a1 t1012 _ A35.out).mono ?_); rintro e w' ⟨rfl, ⟨nd, rfl⟩⟩; refine ⟨_, rfl, ?_⟩; (try (rw [drewN_self wr]; generalize hq_ : World.drewN wr _ = wr; have n0_ : Aside0 (Kd.R (Kd.int .i64) 3 wr w.heap.size (fun _ => True) v1003 x9_1) := ⟨by rw [← hq_]; exact (by (with_reducible repeat (first | apply Kd.R_alloc | apply Kd.R_drewN | apply Kd.R_drew)); exact HO_9.out)⟩; have n1_ : Aside0 (Below w.heap.size w wr) := ⟨by rw [← hq_]; exact (by repeat (first | (with_reducible first | exact HB.out | apply below_alloc | apply pw_below_drewN | apply below_drew1) | exact HB.out))⟩; clear HO_9 HB hq_; have HO_9 := n0_; have HB := n1_; clear n0_ n1_)); have p37 : 0 ≤ (x21_1 : Int) := of_decide_eq_true (by first | (with_reducible assumption) | assumption); have q37 : (x21_1 : Int) < ((x9_1.length : Int) : Int) := of_decide_eq_true (by first | (with_reducible assumption) | assumption); obtain ⟨go37, co37, eo37, gb37, gl37, cl37, HG37⟩ := Kd.R_form HO_9.out (by omega); (first | cases eo37 | (injection eo37 with ea_ en_ ec_; (first | subst ea_ | (injection ea_ with ea_; subst ea_)); subst ec_; clear en_)); have GB37 := Aside0.mk gb37; have GG37 := Aside0.mk HG37; clear gb37 gl37 HG37; obtain ⟨hx37_0, hf37_0⟩ := Kd.R_celln 0 HO_9.out (x21_1 : Int) p37 q37; replace p37 := eq_true p37; replace q37 := eq_true q37; obtain ⟨hy38_, hz38_⟩ := Kd.R_celln 0 HO_9.out (x21_1 : Int) (of_decide_eq_true (by first | (with_reducible assumption) | assumption)) (of_decide_eq_true (by first | (with_reducible assumption) | assumption)); have HP38 := Kd.R_putg HO_9.out (x21_1 : Int) t1012) | ((with_reducible refine gate_store (t := 3) (p := 46) rfl ?_); refine store_event (t := 3) (p := 46) (v := ?vo_w39) (w1 := (wr.setCell ⟨go37, (x21_1 : Int).toNat, none⟩ (.int .i64 t1012))) ?hg ?ho ?hn ?hr ?_; (case ho => rfl); (case hg => rfl); (case hn => rfl); (case hr => first | (go_simp; done) | (go_simp; rfl)); intro w39 hw; have hg : wr.grownBy w39 (some go37) := (by rw [hw]; exact HP38.2); have hp_ : Kd.R (Kd.int .i64) 3 w39 w.heap.size (fun _ => True) (.slice (some ⟨go37, 0, none⟩) x9_1.length co37) y1013 := (by rw [hw, Ny1013.out]; exact HP38.1); clear HP38; have n0_ := Aside0.mk (hp_); have n1_ := Aside0.mk ((by rw [hw]; exact below_set (HB.out) GB37.out : Below w.heap.size w w39)); clear HO_9; clear HB; have HO_9 := n0_; have HB := n1_; clear n0_ n1_; clear hg hw hp_))
                      go_roundg k1
                      case measure => have := HK1.out; omega
                      case rel => exact ⟨(y1013), (wrap64 (x21_1 + 1)), (by first | rfl | (simp; done) | (simp [*]; done)), H', ⟨by have := HK1.out; omega⟩, ⟨by (with_reducible repeat (first | apply Kd.R_alloc | apply Kd.R_drewN | apply Kd.R_drew)); exact HO_9.out⟩, ⟨by repeat (first | (with_reducible first | exact HB.out | apply below_alloc | apply pw_below_drewN | apply below_drew1) | exact HB.out)⟩⟩
                    · rw [if_neg c36] at H
                      exact absurd H (by simp)
              · rw [if_neg c12] at H
                exact absurd H (by simp)
            · rw [if_neg c11] at H
              exact absurd H (by simp)
          · rw [if_neg c10] at H
            have c10b0 : decide (x21_1 < (l0.length : Int)) = false := decide_eq_false c10
            clear c10
            obtain rfl := Option.some.inj H
            go_wp2
            go_ret
            exact ⟨_, by first | rfl | (simp [errW_none, errW_some] <;> rfl) | (simp [*, errW_none, errW_some] <;> rfl), by (with_reducible repeat (first | apply Kd.R_alloc | apply Kd.R_drewN | apply Kd.R_drew)); exact HO_9.out, by repeat (first | (with_reducible first | exact HB.out | apply below_alloc | apply pw_below_drewN | apply below_drew1) | exact HB.out)⟩
    · rw [if_neg c7] at H
      exact absurd H (by simp)
  · rw [if_neg c6] at H
    exact absurd H (by simp)

end Go.Proofs.Ytpfjnpbcnlbhaaa.P
namespace Go.Proofs.Ytpfjnpbcnlbhaaa.P
open Go.RowKit Go.Proofs.YtpfjnpbcnlbhaaaW.PrintWords Go.Proofs.YtpfjnpbcnlbhaaaW.PrintLast Go.Proofs.YtpfjnpbcnlbhaaaW.PrintMore
attribute [local go_sem] max2_int min2_int max_two min_two max_three min_three max_four min_four   -- for this text's walks alone
set_option linter.unusedVariables false
set_option linter.unusedSimpArgs false

/-! ### sackbutref05_Way: function 26 -/
mutual
def sackbutref05_Way.l0 : Nat → List Int → List Int → Int → Option (Int × Int × Int)
  | 0, _, _, _ => none
  | k + 1, x0, x1, x8 => if x8 < 4 then (sackbutref05_Way.l1 k x0 x1 x8 x8 (x0.length : Int) 0) else (some (0, 0, 4))
def sackbutref05_Way.l1 : Nat → List Int → List Int → Int → Int → Int → Int → Option (Int × Int × Int)
  | 0, _, _, _, _, _, _ => none
  | k + 1, x0, x1, x6, x8, x12, x13 => if x13 < x12 then ((sackbutref05_Form.f k x0 (x0.length : Int) x6 x13).bind fun t1002 => ((sackbutref05_same.f k t1002 x1).bind fun t1005 => (if t1005 = true then (some (x6, x13, 0)) else (sackbutref05_Way.l1 k x0 x1 x6 x8 x12 (wrap64 (x13 + 1)))))) else (sackbutref05_Way.l0 k x0 x1 (wrap64 (x8 + 1)))
end
def sackbutref05_Way.f (k : Nat) (l0 : List Int) (l1 : List Int) : Option (Int × Int × Int) := sackbutref05_Way.l0 k l0 l1 0
theorem sackbutref05_Way.mono_l : ∀ k, (∀ y0 y1 y2, LeO (sackbutref05_Way.l0 k y0 y1 y2) (sackbutref05_Way.l0 (k + 1) y0 y1 y2)) ∧ (∀ y0 y1 y2 y3 y4 y5, LeO (sackbutref05_Way.l1 k y0 y1 y2 y3 y4 y5) (sackbutref05_Way.l1 (k + 1) y0 y1 y2 y3 y4 y5))
  | 0 => ⟨fun _ _ _ r h => by simp [sackbutref05_Way.l0] at h, fun _ _ _ _ _ _ r h => by simp [sackbutref05_Way.l1] at h⟩
  | k + 1 => by
    obtain ⟨ih0, ih1⟩ := sackbutref05_Way.mono_l k
    refine ⟨?_, ?_⟩
    · intro y0 y1 y2
      unfold sackbutref05_Way.l0
      repeat' first
      | (with_reducible exact ih0 _ _ _)
      | (with_reducible exact ih1 _ _ _ _ _ _)
      | (with_reducible exact sackbutref05_Form.mono _ _ _ _ _)
      | (with_reducible exact sackbutref05_same.mono _ _ _)
      | (with_reducible exact LeO.refl _)
      | (with_reducible exact LeO.none _)
      | (with_reducible refine LeO.ite ?_ ?_)
      | (with_reducible refine LeO.bind ?_ (fun _ => ?_))
      | exact ih0 _ _ _
      | exact ih1 _ _ _ _ _ _
      | exact sackbutref05_Form.mono _ _ _ _ _
      | exact sackbutref05_same.mono _ _ _
      | exact LeO.none _
      | refine LeO.ite ?_ ?_
      | refine LeO.bind ?_ (fun _ => ?_)
    · intro y0 y1 y2 y3 y4 y5
      unfold sackbutref05_Way.l1
      repeat' first
      | (with_reducible exact ih0 _ _ _)
      | (with_reducible exact ih1 _ _ _ _ _ _)
      | (with_reducible exact sackbutref05_Form.mono _ _ _ _ _)
      | (with_reducible exact sackbutref05_same.mono _ _ _)
      | (with_reducible exact LeO.refl _)
      | (with_reducible exact LeO.none _)
      | (with_reducible refine LeO.ite ?_ ?_)
      | (with_reducible refine LeO.bind ?_ (fun _ => ?_))
      | exact ih0 _ _ _
      | exact ih1 _ _ _ _ _ _
      | exact sackbutref05_Form.mono _ _ _ _ _
      | exact sackbutref05_same.mono _ _ _
      | exact LeO.none _
      | refine LeO.ite ?_ ?_
      | refine LeO.bind ?_ (fun _ => ?_)
theorem sackbutref05_Way.mono : ∀ a0 a1 k, LeO (sackbutref05_Way.f k a0 a1) (sackbutref05_Way.f (k + 1) a0 a1) := by
  intro a0 a1 k
  obtain ⟨ih0, ih1⟩ := sackbutref05_Way.mono_l k
  unfold sackbutref05_Way.f
  repeat' first
      | (with_reducible exact ih0 _ _ _)
      | (with_reducible exact ih1 _ _ _ _ _ _)
      | (with_reducible exact sackbutref05_Form.mono _ _ _ _ _)
      | (with_reducible exact sackbutref05_same.mono _ _ _)
      | (with_reducible exact LeO.refl _)
      | (with_reducible exact LeO.none _)
      | (with_reducible refine LeO.ite ?_ ?_)
      | (with_reducible refine LeO.bind ?_ (fun _ => ?_))
      | exact ih0 _ _ _
      | exact ih1 _ _ _ _ _ _
      | exact sackbutref05_Form.mono _ _ _ _ _
      | exact sackbutref05_same.mono _ _ _
      | exact LeO.none _
      | refine LeO.ite ?_ ?_
      | refine LeO.bind ?_ (fun _ => ?_)
set_option maxHeartbeats 8000000 in
set_option maxRecDepth 100000 in
theorem sackbutref05_Way.calls (k : Nat) (A0 : Option Addr) (c0 : Nat) (l0 : List Int) (A1 : Option Addr) (c1 : Nat) (l1 : List Int) (r1 : Int) (r2 : Int) (r3 : Int) (w : World) (hr0 : Kd.C (Kd.int .i64) w A0 l0.length l0) (hc0 : l0.length ≤ c0) (hr1 : Kd.C (Kd.int .i64) w A1 l1.length l1) (hc1 : l1.length ≤ c1) (h : sackbutref05_Way.f k l0 l1 = some (r1, r2, r3)) :
    Calls Try.prog 26 #[.slice A0 l0.length c0, .slice A1 l1.length c1] w fun e w' => e = .returned (.tuple #[.agg #[.int .i64 r1, .int .i64 r2], .int .i64 r3]) ∧ Below w.heap.size w w' := by
  have hu37 := Try.underlying37
  have HR0 := Aside0.mk hr0
  have HC0 := Aside0.mk hc0
  clear hr0 hc0
  have HR1 := Aside0.mk hr1
  have HC1 := Aside0.mk hc1
  clear hr1 hc1
  have HB := Aside0.mk (Below.refl w.heap.size w)
  have H : (sackbutref05_Way.l0 k l0 l1 0) = some (r1, r2, r3) := h
  clear h
  have H' := Aside0.mk H
  clear H
  go_enter Try.func26, Try.ntmps26
  go_wp2_with (first | ((with_reducible refine gate_dst (N := 4) rfl ?_); refine box_event ?hg (N := 4) ?hd (cs := #[.int .i64 0, .int .i64 0]) (t := 37) ?hr ?_; (case hd => rfl); (case hg => rfl); (case hr => first | (go_simp; done) | (go_simp; rfl)); intro gb1001 hg w3 hbox hb; have n0_ := Aside0.mk (below_step (by repeat (first | (with_reducible first | exact HB.out | apply below_alloc | apply pw_below_drewN | apply below_drew1) | exact HB.out)) hb); have n1_ := Aside0.mk (hbox); have n2_ := Aside0.mk ((by rw [hg]; exact (below_size (by repeat (first | (with_reducible first | exact HB.out | apply below_alloc | apply pw_below_drewN | apply below_drew1) | exact HB.out))) : w.heap.size ≤ gb1001)); have n3_ := Aside0.mk ((by rw [hg]; exact (below_size (by repeat (first | (with_reducible first | exact HB.out | apply below_alloc | apply pw_below_drewN | apply below_drew1) | exact HB.out))) : w.heap.size ≤ gb1001)); clear HB; have HB := n0_; have BK1001 := n1_; have GW1001 := n2_; have GE1001 := n3_; clear n0_ n1_ n2_ n3_; clear hb hbox hg))
  go_loopg [8] k (fun kq v8 w' => ∃ (x8_1 : Int) (x1002000_1 : Int) (x1002001_1 : Int), v8 = .int .i64 x8_1 ∧ Aside0 (sackbutref05_Way.l0 kq l0 l1 x8_1 = some (r1, r2, r3)) ∧ Aside0 (kq ≤ k) ∧ Aside0 (w'.heap[gb1001]? = some (.cells #[.int .i64 x1002000_1, .int .i64 x1002001_1] 37 (0, 0))) ∧ Aside0 (Below w.heap.size w w'))
  case atStart => exact ⟨(0), (0), (0), (by first | rfl | (simp; done) | (simp [*]; done)), H', ⟨Nat.le_refl _⟩, ⟨by (with_reducible repeat (first | refine blk_drewN ?_ _ | refine blk_drew ?_ | refine blk_alloc ?_ _)); exact BK1001.out⟩, ⟨by repeat (first | (with_reducible first | exact HB.out | apply below_alloc | apply pw_below_drewN | apply below_drew1 | refine below_set ?_ GE1001.out) | exact HB.out)⟩⟩
  case round =>
    clear H'
    try clear c1
    try clear c2
    try clear p2
    obtain ⟨x8_1, x1002000_1, x1002001_1, rfl, HA, HK1, BK1001, HB⟩ := hrel
    cases gk with
    | zero => exact absurd HA.out (by simp [sackbutref05_Way.l0])
    | succ k1 =>
      have H := HA.out
      clear HA
      simp only [sackbutref05_Way.l0] at H
      by_cases c4 : x8_1 < 4
      · rw [if_pos c4] at H
        have c4b0 : decide (x8_1 < 4) = true := decide_eq_true c4
        clear c4
        have H' := Aside0.mk H
        clear H
        go_wp2
        go_loopg [13] k1 (fun kq v13 w' => ∃ (x13_2 : Int) (x1002000_2 : Int) (x1002001_2 : Int), v13 = .int .i64 x13_2 ∧ Aside0 (sackbutref05_Way.l1 kq l0 l1 x8_1 x8_1 (l0.length : Int) x13_2 = some (r1, r2, r3)) ∧ Aside0 (kq ≤ k1) ∧ Aside0 (w'.heap[gb1001]? = some (.cells #[.int .i64 x1002000_2, .int .i64 x1002001_2] 37 (0, 0))) ∧ Aside0 (Below w.heap.size w w'))
        case atStart => exact ⟨(0), (x1002000_1), (x1002001_1), (by first | rfl | (simp; done) | (simp [*]; done)), H', ⟨Nat.le_refl _⟩, ⟨by (with_reducible repeat (first | refine blk_drewN ?_ _ | refine blk_drew ?_ | refine blk_alloc ?_ _)); exact BK1001.out⟩, ⟨by repeat (first | (with_reducible first | exact HB.out | apply below_alloc | apply pw_below_drewN | apply below_drew1 | refine below_set ?_ GE1001.out) | exact HB.out)⟩⟩
        case round =>
          clear H'
          try clear c1
          try clear c2
          try clear p2
          try clear c4
          try clear c4b0
          try clear p2
          obtain ⟨x13_2, x1002000_2, x1002001_2, rfl, HA, HK2, BK1001, HB⟩ := hrel
          cases gk with
          | zero => exact absurd HA.out (by simp [sackbutref05_Way.l1])
          | succ k2 =>
            have H := HA.out
            clear HA
            simp only [sackbutref05_Way.l1] at H
            by_cases c5 : x13_2 < (l0.length : Int)
            · rw [if_pos c5] at H
              have c5b0 : decide (x13_2 < (l0.length : Int)) = true := decide_eq_true c5
              clear c5
              replace H := Option.bind_eq_some_iff.mp H
              obtain ⟨t1002, A60, H⟩ := H
              replace H : ((sackbutref05_same.f k2 t1002 l1).bind fun t1005 => (if t1005 = true then (some (x8_1, x13_2, 0)) else (sackbutref05_Way.l1 k2 l0 l1 x8_1 x8_1 (l0.length : Int) (wrap64 (x13_2 + 1))))) = some (r1, r2, r3) := H
              have A6 := Aside0.mk A60
              clear A60
              replace H := Option.bind_eq_some_iff.mp H
              obtain ⟨t1005, A70, H⟩ := H
              replace H : (if t1005 = true then (some (x8_1, x13_2, 0)) else (sackbutref05_Way.l1 k2 l0 l1 x8_1 x8_1 (l0.length : Int) (wrap64 (x13_2 + 1)))) = some (r1, r2, r3) := H
              have A7 := Aside0.mk A70
              clear A70
              by_cases c8 : t1005 = true
              · subst c8
                have H1 : (some (x8_1, x13_2, 0)) = some (r1, r2, r3) := by rw [if_pos rfl] at H; exact H
                clear H
                have H := H1
                clear H1
                simp only [Option.some.injEq, Prod.mk.injEq] at H
                obtain ⟨rfl, rfl, rfl⟩ := H
                go_wp2_with (first | ((with_reducible refine gate_callee (f := 55) rfl ?_); refine goesL_ (some 21) rfl rfl Try.func55 (by kernel_rfl) rfl #[.slice A0 l0.length c0, .int .i64 (l0.length : Int), .int .i64 x8_1, .int .i64 x13_2] rfl (by (try simp only [List.map_toArray, List.map_cons, List.map_nil]); first | done | rfl | (simp only [List.length_drop, List.length_take]; rfl)) ?_; (with_reducible refine (sackbutref05_Form.calls k2 _ _ l0 (l0.length : Int) x8_1 x13_2 t1002 _ ?side1 ?side2 A6.out).mono ?_); (case side1 => repeat (first | exact (Kd.C_below HR0.out HB.out) | (with_reducible refine Kd.C_alloc ?_ _) | (with_reducible refine Kd.C_drewN ?_ _) | (with_reducible refine Kd.C_drew ?_))); (case side2 => exact HC0.out); rintro e w9 ⟨v1003, rfl, ho0, hb⟩; refine ⟨_, rfl, ?_⟩; have n0_ := Aside0.mk (Kd.R_lower ho0 (below_size (by repeat (first | (with_reducible first | exact HB.out | apply below_alloc | apply pw_below_drewN | apply below_drew1 | refine below_set ?_ GE1001.out) | exact HB.out)))); have n1_ := Aside0.mk (blk_below (g := gb1001) (o := .cells #[.int .i64 x1002000_2, .int .i64 x1002001_2] 37 (0, 0)) (by (with_reducible repeat (first | refine blk_drewN ?_ _ | refine blk_drew ?_ | refine blk_alloc ?_ _)); exact BK1001.out) hb); have n2_ := Aside0.mk (below_step (by repeat (first | (with_reducible first | exact HB.out | apply below_alloc | apply pw_below_drewN | apply below_drew1 | refine below_set ?_ GE1001.out) | exact HB.out)) hb); clear BK1001; clear HB; have HO1004 := n0_; have BK1001 := n1_; have HB := n2_; clear n0_ n1_ n2_; (try clear hb); (try clear hb2); (try clear hk); (try clear hi); (try clear ho0); obtain ⟨Ao10, co10, eo10⟩ := Kd.R_slice HO1004.out; subst eo10) | ((with_reducible refine gate_callee (f := 54) rfl ?_); refine goesL_ (some 23) rfl rfl Try.func54 (by kernel_rfl) rfl #[.slice Ao10 t1002.length co10, .slice A1 l1.length c1] rfl (by (try simp only [List.map_toArray, List.map_cons, List.map_nil]); first | done | rfl | (simp only [List.length_drop, List.length_take]; rfl)) ?_; (with_reducible refine (sackbutref05_same.calls k2 _ _ t1002 _ _ l1 true _ ?side1 ?side2 ?side3 ?side4 A7.out).mono ?_); (case side1 => repeat (first | exact (Kd.R_reads' HO1004.out).2.2 | (with_reducible refine Kd.C_alloc ?_ _) | (with_reducible refine Kd.C_drewN ?_ _) | (with_reducible refine Kd.C_drew ?_))); (case side2 => exact (Kd.R_reads' HO1004.out).2.1); (case side3 => repeat (first | exact (Kd.C_below HR1.out HB.out) | (with_reducible refine Kd.C_alloc ?_ _) | (with_reducible refine Kd.C_drewN ?_ _) | (with_reducible refine Kd.C_drew ?_))); (case side4 => exact HC1.out); rintro e w' ⟨rfl, ⟨nd, rfl⟩⟩; refine ⟨_, rfl, ?_⟩; (try (rw [drewN_self w9]; generalize hq_ : World.drewN w9 _ = w9; have n0_ : Aside0 (Kd.R (Kd.int .i64) 3 w9 w.heap.size (fun _ => True) (.slice Ao10 t1002.length co10) t1002) := ⟨by rw [← hq_]; exact (by (with_reducible repeat (first | apply Kd.R_alloc | apply Kd.R_drewN | apply Kd.R_drew)); exact HO1004.out)⟩; have n1_ : Aside0 (w9.heap[gb1001]? = some (.cells #[.int .i64 x1002000_2, .int .i64 x1002001_2] 37 (0, 0))) := ⟨by rw [← hq_]; exact (by (with_reducible repeat (first | refine blk_drewN ?_ _ | refine blk_drew ?_ | refine blk_alloc ?_ _)); exact BK1001.out)⟩; have n2_ : Aside0 (Below w.heap.size w w9) := ⟨by rw [← hq_]; exact (by repeat (first | (with_reducible first | exact HB.out | apply below_alloc | apply pw_below_drewN | apply below_drew1 | refine below_set ?_ GE1001.out) | exact HB.out))⟩; clear HO1004 BK1001 HB hq_; have HO1004 := n0_; have BK1001 := n1_; have HB := n2_; clear n0_ n1_ n2_)); have hcz11_0 : w9.cell? ⟨gb1001, 0, none⟩ = some (.int .i64 x1002000_2) := (blk_cell BK1001.out 0).trans rfl; have hcz11_1 : w9.cell? ⟨gb1001, 1, none⟩ = some (.int .i64 x1002001_2) := (blk_cell BK1001.out 1).trans rfl; have hfz11_0 := blk_frozen BK1001.out 0; have hfz11_1 := blk_frozen BK1001.out 1))
                refine bodyPost_ret (results_ct rfl _ _ gb1001 37 #[.int .i64 x8_1, .int .i64 x13_2] (0, 0) _ rfl (by (with_reducible repeat (first | refine blk_drewN ?_ _ | refine blk_drew ?_ | refine blk_alloc ?_ _)); refine blk_put (cs := #[.int .i64 x8_1, .int .i64 x1002001_2]) ?_ 1 _ rfl; (with_reducible repeat (first | refine blk_drewN ?_ _ | refine blk_drew ?_ | refine blk_alloc ?_ _)); refine blk_put (cs := #[.int .i64 x1002000_2, .int .i64 x1002001_2]) ?_ 0 _ rfl; (with_reducible repeat (first | refine blk_drewN ?_ _ | refine blk_drew ?_ | refine blk_alloc ?_ _)); exact BK1001.out) Try.underlying37 rfl (by kernel_rfl)) rfl ?_
                exact ⟨by first | rfl | (simp [errW_none, errW_some] <;> rfl) | (simp [*, errW_none, errW_some] <;> rfl), by repeat (first | (with_reducible first | exact HB.out | apply below_alloc | apply pw_below_drewN | apply below_drew1 | refine below_set ?_ GE1001.out) | exact HB.out)⟩
              · replace c8 := Bool.eq_false_iff.mpr c8
                subst c8
                have H1 : (sackbutref05_Way.l1 k2 l0 l1 x8_1 x8_1 (l0.length : Int) (wrap64 (x13_2 + 1))) = some (r1, r2, r3) := by rw [if_neg (show ¬ (false = true) by decide)] at H; exact H
                clear H
                have H := H1
                clear H1
                have H' := Aside0.mk H
                clear H
                go_wp2_with (first | ((with_reducible refine gate_callee (f := 55) rfl ?_); refine goesL_ (some 21) rfl rfl Try.func55 (by kernel_rfl) rfl #[.slice A0 l0.length c0, .int .i64 (l0.length : Int), .int .i64 x8_1, .int .i64 x13_2] rfl (by (try simp only [List.map_toArray, List.map_cons, List.map_nil]); first | done | rfl | (simp only [List.length_drop, List.length_take]; rfl)) ?_; (with_reducible refine (sackbutref05_Form.calls k2 _ _ l0 (l0.length : Int) x8_1 x13_2 t1002 _ ?side1 ?side2 A6.out).mono ?_); (case side1 => repeat (first | exact (Kd.C_below HR0.out HB.out) | (with_reducible refine Kd.C_alloc ?_ _) | (with_reducible refine Kd.C_drewN ?_ _) | (with_reducible refine Kd.C_drew ?_))); (case side2 => exact HC0.out); rintro e w12 ⟨v1003, rfl, ho0, hb⟩; refine ⟨_, rfl, ?_⟩; have n0_ := Aside0.mk (Kd.R_lower ho0 (below_size (by repeat (first | (with_reducible first | exact HB.out | apply below_alloc | apply pw_below_drewN | apply below_drew1 | refine below_set ?_ GE1001.out) | exact HB.out)))); have n1_ := Aside0.mk (blk_below (g := gb1001) (o := .cells #[.int .i64 x1002000_2, .int .i64 x1002001_2] 37 (0, 0)) (by (with_reducible repeat (first | refine blk_drewN ?_ _ | refine blk_drew ?_ | refine blk_alloc ?_ _)); exact BK1001.out) hb); have n2_ := Aside0.mk (below_step (by repeat (first | (with_reducible first | exact HB.out | apply below_alloc | apply pw_below_drewN | apply below_drew1 | refine below_set ?_ GE1001.out) | exact HB.out)) hb); clear BK1001; clear HB; have HO1004 := n0_; have BK1001 := n1_; have HB := n2_; clear n0_ n1_ n2_; (try clear hb); (try clear hb2); (try clear hk); (try clear hi); (try clear ho0); obtain ⟨Ao13, co13, eo13⟩ := Kd.R_slice HO1004.out; subst eo13) | ((with_reducible refine gate_callee (f := 54) rfl ?_); refine goesL_ (some 23) rfl rfl Try.func54 (by kernel_rfl) rfl #[.slice Ao13 t1002.length co13, .slice A1 l1.length c1] rfl (by (try simp only [List.map_toArray, List.map_cons, List.map_nil]); first | done | rfl | (simp only [List.length_drop, List.length_take]; rfl)) ?_; (with_reducible refine (sackbutref05_same.calls k2 _ _ t1002 _ _ l1 false _ ?side1 ?side2 ?side3 ?side4 A7.out).mono ?_); (case side1 => repeat (first | exact (Kd.R_reads' HO1004.out).2.2 | (with_reducible refine Kd.C_alloc ?_ _) | (with_reducible refine Kd.C_drewN ?_ _) | (with_reducible refine Kd.C_drew ?_))); (case side2 => exact (Kd.R_reads' HO1004.out).2.1); (case side3 => repeat (first | exact (Kd.C_below HR1.out HB.out) | (with_reducible refine Kd.C_alloc ?_ _) | (with_reducible refine Kd.C_drewN ?_ _) | (with_reducible refine Kd.C_drew ?_))); (case side4 => exact HC1.out); rintro e w' ⟨rfl, ⟨nd, rfl⟩⟩; refine ⟨_, rfl, ?_⟩))
                go_roundg k2
                case measure => have := HK1.out; have := HK2.out; omega
                case rel => exact ⟨(wrap64 (x13_2 + 1)), (x1002000_2), (x1002001_2), (by first | rfl | (simp; done) | (simp [*]; done)), H', ⟨by have := HK1.out; have := HK2.out; omega⟩, ⟨by (with_reducible repeat (first | refine blk_drewN ?_ _ | refine blk_drew ?_ | refine blk_alloc ?_ _)); exact BK1001.out⟩, ⟨by repeat (first | (with_reducible first | exact HB.out | apply below_alloc | apply pw_below_drewN | apply below_drew1 | refine below_set ?_ GE1001.out) | exact HB.out)⟩⟩
            · rw [if_neg c5] at H
              have c5b0 : decide (x13_2 < (l0.length : Int)) = false := decide_eq_false c5
              clear c5
              have H' := Aside0.mk H
              clear H
              go_wp2
              go_roundg k2
              case measure => have := HK1.out; have := HK2.out; omega
              case rel => exact ⟨(wrap64 (x8_1 + 1)), (x1002000_2), (x1002001_2), (by first | rfl | (simp; done) | (simp [*]; done)), H', ⟨by have := HK1.out; have := HK2.out; omega⟩, ⟨by (with_reducible repeat (first | refine blk_drewN ?_ _ | refine blk_drew ?_ | refine blk_alloc ?_ _)); exact BK1001.out⟩, ⟨by repeat (first | (with_reducible first | exact HB.out | apply below_alloc | apply pw_below_drewN | apply below_drew1 | refine below_set ?_ GE1001.out) | exact HB.out)⟩⟩
      · rw [if_neg c4] at H
        have c4b0 : decide (x8_1 < 4) = false := decide_eq_false c4
        clear c4
        simp only [Option.some.injEq, Prod.mk.injEq] at H
        obtain ⟨rfl, rfl, rfl⟩ := H
        have hcz14_0 : wr.cell? ⟨gb1001, 0, none⟩ = some (.int .i64 x1002000_1) := (blk_cell BK1001.out 0).trans rfl
        have hcz14_1 : wr.cell? ⟨gb1001, 1, none⟩ = some (.int .i64 x1002001_1) := (blk_cell BK1001.out 1).trans rfl
        have hfz14_0 := blk_frozen BK1001.out 0
        have hfz14_1 := blk_frozen BK1001.out 1
        go_wp2
        refine bodyPost_ret (results_ct rfl _ _ gb1001 37 #[.int .i64 0, .int .i64 0] (0, 0) _ rfl (by (with_reducible repeat (first | refine blk_drewN ?_ _ | refine blk_drew ?_ | refine blk_alloc ?_ _)); refine blk_put (cs := #[.int .i64 0, .int .i64 x1002001_1]) ?_ 1 _ rfl; (with_reducible repeat (first | refine blk_drewN ?_ _ | refine blk_drew ?_ | refine blk_alloc ?_ _)); refine blk_put (cs := #[.int .i64 x1002000_1, .int .i64 x1002001_1]) ?_ 0 _ rfl; (with_reducible repeat (first | refine blk_drewN ?_ _ | refine blk_drew ?_ | refine blk_alloc ?_ _)); exact BK1001.out) Try.underlying37 rfl (by kernel_rfl)) rfl ?_
        exact ⟨by first | rfl | (simp [errW_none, errW_some] <;> rfl) | (simp [*, errW_none, errW_some] <;> rfl), by repeat (first | (with_reducible first | exact HB.out | apply below_alloc | apply pw_below_drewN | apply below_drew1 | refine below_set ?_ GE1001.out) | exact HB.out)⟩

end Go.Proofs.Ytpfjnpbcnlbhaaa.P
namespace Go.Proofs.Ytpfjnpbcnlbhaaa.P
open Go.RowKit Go.Proofs.YtpfjnpbcnlbhaaaW.PrintWords Go.Proofs.YtpfjnpbcnlbhaaaW.PrintLast Go.Proofs.YtpfjnpbcnlbhaaaW.PrintMore
attribute [local go_sem] max2_int min2_int max_two min_two max_three min_three max_four min_four   -- for this text's walks alone
set_option linter.unusedVariables false
set_option linter.unusedSimpArgs false

theorem eqA37 (d : Nat) (w : World) (x0 y0 : Int) (x1 y1 : Int) :
    (Op.equalIn (d + 2) 37 (.agg #[.int .i64 x0, .int .i64 x1]) (.agg #[.int .i64 y0, .int .i64 y1])).run Try.prog w = .ok (x0 == y0 && (x1 == y1)) w := by
  have hu : (underlying 37).run Try.prog w = .ok (.array 2 3) w := run_underlying Try.underlying37 w
  have e0 : (Op.equalIn (d + 1) 3 (.int .i64 x0) (.int .i64 y0)).run Try.prog w = .ok (x0 == y0) w := by go_simp; try rfl
  have e1 : (Op.equalIn (d + 1) 3 (.int .i64 x1) (.int .i64 y1)).run Try.prog w = .ok (x1 == y1) w := by go_simp; try rfl
  unfold Op.equalIn
  simp only [Sem.run_bind, hu]
  go_simp
  simp only [show List.range' 0 2 = [0, 1] from rfl, List.forIn_cons, List.forIn_nil]
  cases h0 : x0 == y0 <;> cases h1 : x1 == y1 <;> simp only [h0, h1] at e0 e1 <;> (go_simp; try simp [e0, e1])
end Go.Proofs.Ytpfjnpbcnlbhaaa.P
