/- Proved here: the Go function sackbutlaw05.RowsFills returns true for every input (its printed form comes to true), whatever its arguments. Conditions: none beyond the row's own reach in memory. -/
import Derived.ArgAppend
import Derived.StillTailTactics
import Derived.Laws.EntriesVeiled
import Derived.Shelf.Abstract
import Derived.Test.YtpfjnpbcnlbhaaaRows
import Derived.WalkKit
import Derived.ProofKit
import Derived.OpenShut
import Derived.ShutString
import Derived.ChangeOld
import Derived.Below
import Derived.SizedLaws
import Derived.Test.YtpfjnpbcnlbhaaaWSized
import Derived.Test.YtpfjnpbcnlbhaaaCRowsFills1
import Derived.Test.YtpfjnpbcnlbhaaaCRowsFills2
import Derived.Test.YtpfjnpbcnlbhaaaCRowsFills3
import Derived.Test.YtpfjnpbcnlbhaaaCRowsFills4
namespace Go.Proofs.Ytpfjnpbcnlbhaaa.P
open Go.RowKit Go.Proofs.YtpfjnpbcnlbhaaaW.PrintWords Go.Proofs.YtpfjnpbcnlbhaaaW.PrintLast Go.Proofs.YtpfjnpbcnlbhaaaW.PrintMore
attribute [local go_sem] max2_int min2_int max_two min_two max_three min_three max_four min_four   -- for this text's walks alone
set_option linter.unusedVariables false
set_option linter.unusedSimpArgs false

/-! the document's search, for the first row -/
def wholeF (n : Nat) : Nat → List Nat → Option (List Nat)
  | r, cur => if (stepsOf n (nums cur)).Nodup then (match r with
    | 0 => some cur
    | r + 1 => (List.range n).findSome? fun x => if x ∈ cur then none else wholeF n r (cur ++ [x])) else none
/-- what the pointer's box holds -/
def BoxF (B base : Nat) (o : Option (List Nat)) (W : World) : Prop := W.frozen? ⟨B, 0, none⟩ = false ∧ match o with
  | none => W.cell? ⟨B, 0, none⟩ = some (.slice none 0 0)
  | some l => ∃ g c rv, W.cell? ⟨B, 0, none⟩ = some (.slice (some ⟨g, 0, none⟩) 1 c) ∧ base ≤ g ∧ W.cell? ⟨g, 0, none⟩ = some rv ∧ Kd.R (Kd.int .i64) 3 W base (fun _ => True) rv (nums l)
def WholePost (B : Nat) (W : World) (o : Option (List Nat)) (e : Ending) (W' : World) : Prop := e = .returned (.int .i64 (if o = none then 0 else 1)) ∧ BoxF B W.heap.size o W' ∧ Fr (fun i => i ≠ B ∧ i < W.heap.size) W W'
theorem every_bool {n : Nat} {cur : List Nat} (hn : 1 ≤ n) (hn2 : n ≤ 40) (hl : cur.length ≤ 1000) (hcur : ∀ y ∈ cur, y < n) : ∃ k, sackbutref05_Every.f k (nums cur) (n : Int) = some (decide (stepsOf n (nums cur)).Nodup) :=
  Ev.rounds (g := fun k => sackbutref05_Every.f k (nums cur) (n : Int)) (refEvery_ev (nums cur) n hn (by omega) (by rw [nums_length]; omega) (fun x hx => by
    unfold nums at hx
    obtain ⟨y, hy, rfl⟩ := List.mem_map.1 hx
    have := hcur y hy
    show (0 : Int) ≤ (y : Int) ∧ (y : Int) < _
    omega))
theorem box_below {B base base' : Nat} {W W' : World} (h : BoxF B base none W) (hb : Below W.heap.size W W') : BoxF B base' none W' := by
  obtain ⟨hf, hc⟩ := h
  have hl : B < W.heap.size := World.block_lt_of_cell? W _ hc
  exact ⟨(hb.frozen (p := ⟨B, 0, none⟩) hl).trans hf, (hb.cell (p := ⟨B, 0, none⟩) hl).trans hc⟩
set_option maxHeartbeats 8000000 in
set_option maxRecDepth 100000 in
theorem whole_not {n B : Nat} {cur : List Nat} {A : Option Addr} {c : Nat} {W : World} (hn : 1 ≤ n) (hn2 : n ≤ 40) (hl : cur.length ≤ 1000) (hcur : ∀ y ∈ cur, y < n) (hC : Kd.C (Kd.int .i64) W A (nums cur).length (nums cur)) (hcap : (nums cur).length ≤ c) (hB : BoxF B W.heap.size none W) (hno : ¬ (stepsOf n (nums cur)).Nodup) :
    Calls Try.prog 63 #[.slice A (nums cur).length c, .int .i64 (n : Int), .int .i64 1, .pointer (some ⟨B, 0, none⟩)] W (WholePost B W none) := by
  obtain ⟨k, hk⟩ := every_bool (cur := cur) hn hn2 hl hcur
  rw [decide_eq_false hno] at hk
  have hcall := sackbutref05_Every.calls k A c (nums cur) (n : Int) false W hC hcap hk
  obtain ⟨L, hL⟩ : ∃ L, (nums cur).length = L := ⟨_, rfl⟩
  rw [hL] at hcall ⊢
  have HCALL := Aside0.mk hcall
  have HB := Aside0.mk hB
  clear hcall hk hC hcap hB hno hL
  go_enter Try.func63, Try.ntmps63
  go_wp2_with fail
  refine HCALL.out.mono ?_
  rintro e w1 ⟨rfl, hb⟩
  have HB1 := Aside0.mk hb
  clear hb
  go_wp2
  go_ret
  exact ⟨rfl, box_below HB.out HB1.out, Fr.of_below HB1.out (fun k hk => hk.2)⟩
theorem C_fr2 {w w' : World} {K : Nat → Prop} {A : Option Addr} {m : Nat} {xs : List Int} (h : Kd.C (Kd.int .i64) w A m xs) (hA : ∀ b, A = some b → 0 < xs.length → K b.block) (hf : Fr K w w') : Kd.C (Kd.int .i64) w' A m xs := by
  obtain ⟨h1, h2, h3⟩ := h
  refine ⟨h1, h2, fun hn => ?_⟩
  obtain ⟨ad, e, hc⟩ := h3 hn
  refine ⟨ad, e, fun j p hp => ?_⟩
  obtain ⟨c, hcl, hR, hcc⟩ := hc j p hp
  refine ⟨c, hcl, hR, fun i u hu => ?_⟩
  have h4 := hcc i u hu
  rw [World.cell?_of_block (hf.block _ (by rw [add_block_]; exact hA ad e (by omega)))]
  exact h4
theorem infoS9 : (Try.prog.info? 22).map (fun i => (i.zero, i.size, i.bytes)) = some (some (.slice none 0 0), 1, 24) := by kernel_rfl
theorem own_one {w : World} {base : Nat} {e : TypeId} {v u : Value} (h : w.ownsRow base e 1 v 1 [u]) : ∃ g c, v = .slice (some ⟨g, 0, none⟩) 1 c ∧ w.cell? ⟨g, 0, none⟩ = some u ∧ base ≤ g ∧ g < w.heap.size := by
  have hc : ∀ g, v.ownBlock = some g → ∀ j u', [u][j]? = some u' → w.cell? ((⟨g, 0, none⟩ : Addr).add j) = some u' := fun g hg => h.cells hg
  have hbs : ∀ g, v.ownBlock = some g → base ≤ g := fun g hg => own_base h g hg
  obtain ⟨_, h2⟩ := h
  rcases h2 with ⟨_, h0⟩ | ⟨g, cap, cur, e1, h3⟩
  · omega
  · have := hc g (by rw [e1]; rfl) 0 u rfl
    exact ⟨g, cap, e1, this, hbs g (by rw [e1]; rfl), World.block_lt_of_cell? w _ this⟩
theorem val_ {ops : Array Oper} {Q : Exit → Act → World → Prop} {oi : Oper} {N : Option Tmp} {a : Act} {w w1 : World} {K : Act → World → Prop} {v : Value} (hw : Region.wanted oi (yielded ops a.tmps) = true) (hN : oi.dst = N) (hrun : (execOp a.eval oi).run Try.prog w = .ok (.value v) w1) (h : K (a.put N v) w1) : if Region.wanted oi (yielded ops a.tmps) = true then Oper.wp Try.prog oi a w K Q else K (a.put N undef) w := by
  rw [if_pos hw]
  unfold Oper.wp
  rw [hrun]
  show K (a.put oi.dst v) w1
  rw [hN]
  exact h
set_option maxHeartbeats 8000000 in
set_option maxRecDepth 100000 in
theorem whole_end {n B : Nat} {cur : List Nat} {A : Option Addr} {c : Nat} {W : World} (hn : 1 ≤ n) (hn2 : n ≤ 40) (hl : cur.length = n) (hcur : ∀ y ∈ cur, y < n) (hC : Kd.C (Kd.int .i64) W A (nums cur).length (nums cur)) (hcap : (nums cur).length ≤ c) (hB : BoxF B W.heap.size none W) (hyes : (stepsOf n (nums cur)).Nodup) :
    Calls Try.prog 63 #[.slice A (nums cur).length c, .int .i64 (n : Int), .int .i64 1, .pointer (some ⟨B, 0, none⟩)] W (WholePost B W (some cur)) := by
  obtain ⟨k, hk⟩ := every_bool (cur := cur) hn hn2 (by omega) hcur
  rw [decide_eq_true hyes] at hk
  have hcall := sackbutref05_Every.calls k A c (nums cur) (n : Int) true W hC hcap hk
  have hlen : (nums cur).length = n := by rw [nums_length, hl]
  have HLEN := Aside0.mk hlen
  have HC := Aside0.mk hC
  rw [hlen] at hcall ⊢
  have HCALL := Aside0.mk hcall
  have HB := Aside0.mk hB
  clear hcall hk hC hcap hB hyes hlen
  go_enter Try.func63, Try.ntmps63
  go_wp2_with fail
  refine HCALL.out.mono ?_
  rintro e w1 ⟨rfl, hb⟩
  have HB1 := Aside0.mk hb
  have hbx := box_below (base' := W.heap.size) HB.out hb
  have hBf := hbx.1
  have hBc := hbx.2
  simp only at hBc
  have HCW := Aside0.mk (Kd.C_below HC.out hb)
  have HCN := Aside0.mk (show Kd.C (Kd.int .i64) w1 A n (nums cur) from by have h := HCW.out; rw [HLEN.out] at h; exact h)
  clear hb hbx
  go_wp2
  refine start_ (n := 11) (S := fun w' => w'.cell? ⟨B, 0, none⟩ = some (.slice none 0 0)) (ds := [10]) #[false, false, false, false, false, false, false, false, false, false, false] (by kernel_rfl) rfl rfl hBc (fun _ => ?_)
  refine pure_ (i := 0) (N := some 26) (v := ?_) (a' := ?_) #[true, false, false, false, false, false, false, false, false, false, false] rfl rfl (by kernel_rfl) (fun _ _ _ h => h) (Or.inl ⟨by rfl, ?_⟩) ?_ ?_
  rotate_left
  · intro w'
    go_simp
    with_reducible rfl
  rotate_left
  · simp only [Act.put, List.setIfInBounds_toArray, List.set_cons_zero, List.set_cons_succ, i64_w, i32_w]
    rfl
  refine pure_ (i := 1) (N := some 27) (v := ?_) (a' := ?_) #[true, true, false, false, false, false, false, false, false, false, false] rfl rfl (by kernel_rfl) (fun _ _ _ h => h) (Or.inl ⟨by rfl, ?_⟩) ?_ ?_
  rotate_left
  · intro w'
    go_simp
    with_reducible rfl
  rotate_left
  · simp only [Act.put, List.setIfInBounds_toArray, List.set_cons_zero, List.set_cons_succ, i64_w, i32_w]
    rfl
  refine pure_ (i := 2) (N := some 28) (v := ?_) (a' := ?_) #[true, true, true, false, false, false, false, false, false, false, false] rfl rfl (by kernel_rfl) (fun _ _ _ h => h) (Or.inl ⟨by rfl, ?_⟩) ?_ ?_
  rotate_left
  · intro w'
    go_simp
    with_reducible rfl
  rotate_left
  · simp only [Act.put, List.setIfInBounds_toArray, List.set_cons_zero, List.set_cons_succ, i64_w, i32_w]
    rfl
  refine take_ (i := 3) (N := some 29) (v := ?_) (a' := ?_) #[true, true, true, true, false, false, false, false, false, false, false] rfl rfl (by kernel_rfl) (fun _ _ _ h => h) (Or.inl ⟨by rfl, ?_⟩) hBc ?_ ?_
  rotate_left
  · intro w' hw'
    go_simp
    with_reducible rfl
  rotate_left
  · simp only [Act.put, List.setIfInBounds_toArray, List.set_cons_zero, List.set_cons_succ, i64_w, i32_w]
    rfl
  refine pure_ (i := 5) (N := some 31) (v := ?_) (a' := ?_) #[true, true, true, true, false, true, false, false, false, false, false] rfl rfl (by kernel_rfl) (fun _ _ _ h => h) (Or.inl ⟨by rfl, ?_⟩) ?_ ?_
  rotate_left
  · intro w'
    go_simp
    with_reducible rfl
  rotate_left
  · simp only [Act.put, List.setIfInBounds_toArray, List.set_cons_zero, List.set_cons_succ, i64_w, i32_w]
    rfl
  refine one_ (i := 4) (N := some 30) #[true, true, true, true, true, true, false, false, false, false, false] rfl rfl (by kernel_rfl) (by decide) (fun K hK => ?_)
  have hbz : Below w1.heap.size w1 w1.drew := below_drew1 (Below.refl _ _)
  have hBl : B < w1.heap.size := World.block_lt_of_cell? w1 _ hBc
  refine Kd.R_lit_step (Kd.int .i64) (w0 := w1) w1.heap.size 3 (by rfl) (N := 30) rfl (xs := []) (inner := []) (ok := fun _ => True) (okp := fun _ => False) ?hr (Reps.none _ _) (fun _ h => h.elim) trivial hbz (below_size hbz) (by simp) ?_
  case hr => first | (go_simp; done) | (go_simp; rfl)
  rintro v30 w2 ho30 hb30 hg30 -
  refine hK.out _ _ ((hb30.cell (p := ⟨B, 0, none⟩) hBl).trans hBc) (fun _ => ?_)
  clear hK K
  refine norm_ (a' := ?_) ?_ ?_
  rotate_left
  · show Act.put _ (some 30) _ = _
    simp only [Act.put, List.setIfInBounds_toArray, List.set_cons_zero, List.set_cons_succ, i64_w, i32_w]
    rfl
  refine one_ (i := 6) (N := some 32) #[true, true, true, true, true, true, true, false, false, false, false] rfl rfl (by kernel_rfl) (by decide) (fun K hK => ?_)
  refine Kd.R_append_rows_step (Kd.int .i64) (w0 := w1) w1.heap.size (by rfl) (.tmp 30) (.tmp 31) 22 3 (.int .i64 0) 8 rfl Try.underlying22 info3 rfl (by decide) (by omega) v30 [] (nums cur) A n c (fun _ => True) (fun _ => False) rfl rfl ho30 (Kd.C_below HCN.out hb30) (fun _ _ h => h) (fun _ h => h.elim) (fun _ _ => trivial) hb30 (below_size hb30) (by simp; omega) ?_
  rintro v32 w3 ho32 hb32 hg32 -
  refine hK.out _ _ ((hb32.cell (p := ⟨B, 0, none⟩) hBl).trans hBc) (fun _ => ?_)
  clear hK K
  refine norm_ (a' := ?_) ?_ ?_
  rotate_left
  · show Act.put _ (some 32) _ = _
    simp only [Act.put, List.setIfInBounds_toArray, List.set_cons_zero, List.set_cons_succ, i64_w, i32_w]
    rfl
  obtain ⟨A32, c32, e32⟩ := Kd.R_slice ho32
  subst e32
  simp only [List.nil_append] at ho32 ⊢
  obtain ⟨L32, hL32⟩ : ∃ L32, (nums cur).length = L32 := ⟨_, rfl⟩
  rw [hL32] at ho32 ⊢
  refine one_ (i := 7) (N := some 33) #[true, true, true, true, true, true, true, true, false, false, false] rfl rfl (by kernel_rfl) (by decide) (fun K hK => ?_)
  refine val_ (v := .slice (some ⟨w3.heap.size, 0, none⟩) 1 1) (w1 := w3.alloc (.cells #[.slice A32 L32 c32] 22)) (by rfl) rfl ?hr7 ?_
  case hr7 => first | (go_simp; done) | (go_simp; rfl)
  have hb7 : Below w1.heap.size w1 (w3.alloc (.cells #[.slice A32 L32 c32] 22)) := below_alloc hb32 _
  have hn7 := (new_cell w3 (.slice A32 L32 c32) 22).1
  have hz7 : (w3.alloc (.cells #[.slice A32 L32 c32] 22)).heap.size = w3.heap.size + 1 := World.size_alloc _ _
  have hR7 := Kd.R_below ho32 (below_alloc (Below.refl w3.heap.size w3) (.cells #[.slice A32 L32 c32] 22))
  refine hK.out _ _ ((hb7.cell (p := ⟨B, 0, none⟩) hBl).trans hBc) (fun _ => ?_)
  clear hK K
  refine norm_ (a' := ?_) ?_ ?_
  rotate_left
  · show Act.put _ (some 33) _ = _
    simp only [Act.put, List.setIfInBounds_toArray, List.set_cons_zero, List.set_cons_succ, i64_w, i32_w]
    rfl
  generalize w3.alloc (.cells #[.slice A32 L32 c32] 22) = w4 at hb7 hn7 hz7 hR7 ⊢
  obtain ⟨i1, hi1, hy0, hy1, hy2⟩ := info_parts infoS9
  refine one_ (i := 8) (N := some 34) #[true, true, true, true, true, true, true, true, true, false, false] rfl rfl (by kernel_rfl) (by decide) (fun K hK => ?_)
  rw [if_pos (by rfl)]
  refine wp_append_own _ (.tmp 29) (.tmp 33) 53 rfl w1.heap.size 22 i1 (.slice none 0 0) 1 24 Try.underlying53 hi1 hy0 hy1 hy2 rfl (by decide) (.slice none 0 0) 0 [] rfl (World.ownsRow_nil _ _ _ _) ⟨w3.heap.size, 0, none⟩ 1 1 [.slice A32 L32 c32] rfl rfl ?hnews (fun u hu => by rw [List.mem_singleton] at hu; subst hu; rfl) (by simp only [maxLen]; omega) (by omega) hb7.size ?_
  case hnews =>
    intro j u hu
    cases j with
    | zero => simp only [List.getElem?_cons_zero, Option.some.injEq] at hu; subst hu; exact hn7
    | succ j => simp at hu
  intro v34 w5 ho34 hg34 _
  simp only [List.nil_append, Nat.zero_add] at ho34
  have hb8 : Below w1.heap.size w1 w5 := hb7.grown hg34 hb7.size (fun k e => by cases e)
  have hR8 : Kd.R (Kd.int .i64) 3 w5 w1.heap.size (fun _ => True) (.slice A32 L32 c32) (nums cur) := Kd.R_below hR7 (Below.grown (Below.refl w4.heap.size w4) hg34 (Nat.le_refl _) (fun k e => by cases e))
  refine hK.out _ _ ((hb8.cell (p := ⟨B, 0, none⟩) hBl).trans hBc) (fun _ => ?_)
  clear hK K
  refine norm_ (a' := ?_) ?_ ?_
  rotate_left
  · show Act.put _ (some 34) _ = _
    simp only [Act.put, List.setIfInBounds_toArray, List.set_cons_zero, List.set_cons_succ, i64_w, i32_w]
    rfl
  obtain ⟨g34, c34, e34, hc34⟩ := own_one ho34
  subst e34
  refine pure_ (i := 9) (N := some 35) (v := ?_) (a' := ?_) #[true, true, true, true, true, true, true, true, true, true, false] rfl rfl (by kernel_rfl) (fun _ _ _ h => h) (Or.inl ⟨by rfl, ?_⟩) ?_ ?_
  rotate_left
  · intro w'
    go_simp
    with_reducible rfl
  rotate_left
  · simp only [Act.put, List.setIfInBounds_toArray, List.set_cons_zero, List.set_cons_succ, i64_w, i32_w]
    rfl
  refine last_ (i := 10) (N := none) #[true, true, true, true, true, true, true, true, true, true, true] rfl rfl (by kernel_rfl) (by decide) (fun K hK => ?_)
  have k0 := (hb8.cell (p := ⟨B, 0, none⟩) hBl).trans hBc
  have z0 := (hb8.frozen (p := ⟨B, 0, none⟩) hBl).trans hBf
  refine skip_ (w1 := w5.setCell ⟨B, 0, none⟩ (.slice (some ⟨g34, 0, none⟩) 1 c34)) (by rfl) rfl ?hr10 ?_
  case hr10 => first | (go_simp; done) | (go_simp; rfl)
  refine hK.out _ _ ?_
  clear hK K
  refine done_ (by kernel_rfl) ?_
  have HR8 := Aside0.mk hR8
  have HB8 := Aside0.mk hb8
  have HC34 := Aside0.mk hc34
  have K0 := Aside0.mk k0
  have Z0 := Aside0.mk z0
  have HBL := Aside0.mk hBl
  clear hR8 hb8 hc34 k0 z0 hBl ho34 hg34 hb7 hn7 hz7 hR7 ho32 hb32 hg32 ho30 hb30 hg30 hbz hy0 hy1 hy2 hi1
  go_wp2
  go_ret
  refine ⟨by simp, ⟨by rw [World.frozen?_setCell]; exact Z0.out, g34, c34, .slice A32 L32 c32, World.cell?_setCell_same' _ _ _ (by rw [K0.out]; rfl), Nat.le_trans HB1.out.size HC34.out.2.1, (World.cell?_setCell_far _ _ _ _ (by simp only [ne_eq]; have := HBL.out; have := HC34.out.2.1; omega)).trans HC34.out.1, ?_⟩, ((Fr.of_below HB1.out (fun k hk => hk.2)).trans ((Fr.of_below HB8.out (fun k hk => Nat.lt_of_lt_of_le hk.2 HB1.out.size)))).trans (Fr.setCell _ _ (fun h => h.1 rfl))⟩
  exact Kd.R_lower (Kd.R_mono (Kd.R_move (Kd.R_bound HR8.out) (fun i hi => Below.heap_setCell _ _ _ _ (by simp only [ne_eq]; have := hi.2.1; have := HBL.out; omega))) (fun _ _ => trivial)) HB1.out.size
theorem findSome_upto {α : Type} (f : Nat → Option α) {n x : Nat} {l : α} (hx : x < n) (h0 : (List.range x).findSome? f = none) (h1 : f x = some l) : (List.range n).findSome? f = some l := by
  obtain ⟨d, rfl⟩ : ∃ d, n = x + 1 + d := ⟨n - (x + 1), by omega⟩
  rw [List.range_add, List.findSome?_append, List.range_succ, List.findSome?_append, h0]
  simp [h1]
theorem wholeF_next {n r : Nat} {cur : List Nat} {x : Nat} (h0 : ((List.range x).findSome? fun x => if x ∈ cur then none else wholeF n r (cur ++ [x])) = none) (h1 : (if x ∈ cur then none else wholeF n r (cur ++ [x])) = none) : ((List.range (x + 1)).findSome? fun x => if x ∈ cur then none else wholeF n r (cur ++ [x])) = none := by
  rw [List.range_succ, List.findSome?_append, h0]
  simp [h1]
theorem part_snoc {n : Nat} {cur : List Nat} {x : Nat} (hx : x < n) (hp : PartOf n (nums cur)) : PartOf n (nums (cur ++ [x])) ↔ x ∉ cur := by
  unfold PartOf at hp ⊢
  rw [nums_snoc]
  constructor
  · rintro ⟨_, h⟩ hm
    rw [List.nodup_append] at h
    exact h.2.2 (x : Int) (List.mem_map.2 ⟨x, hm, rfl⟩) (x : Int) (by simp) rfl
  · intro h
    refine ⟨fun y hy => ?_, ?_⟩
    · rcases List.mem_append.1 hy with h | h
      · exact hp.1 y h
      · rw [List.mem_singleton] at h; subst h; omega
    · rw [List.nodup_append]
      refine ⟨hp.2, by simp, fun a ha b hb e => ?_⟩
      rw [List.mem_singleton] at hb
      obtain ⟨z, hz, rfl⟩ := List.mem_map.1 ha
      have : z = x := by
        have h5 : ((z : Nat) : Int) = (x : Int) := e.trans hb
        omega
      exact h (this ▸ hz)
set_option maxHeartbeats 8000000 in
set_option maxRecDepth 100000 in
theorem whole_more {n B : Nat} (r : Nat) {cur : List Nat} {A : Option Addr} {c : Nat} {W : World} (hn : 1 ≤ n) (hn2 : n ≤ 40) (hl : cur.length + (r + 1) = n) (hcur : ∀ y ∈ cur, y < n) (hpart : PartOf n (nums cur)) (hC : Kd.C (Kd.int .i64) W A (nums cur).length (nums cur)) (hcap : (nums cur).length ≤ c) (hA : ∀ b, A = some b → 0 < cur.length → b.block ≠ B ∧ b.block < W.heap.size) (hB : BoxF B W.heap.size none W) (hyes : (stepsOf n (nums cur)).Nodup)
    (ih : ∀ (x : Nat) (A : Option Addr) (c : Nat) (W : World), x < n → x ∉ cur → Kd.C (Kd.int .i64) W A (nums (cur ++ [x])).length (nums (cur ++ [x])) → (nums (cur ++ [x])).length ≤ c → (∀ b, A = some b → 0 < (cur ++ [x]).length → b.block ≠ B ∧ b.block < W.heap.size) → BoxF B W.heap.size none W →
      Calls Try.prog 63 #[.slice A (nums (cur ++ [x])).length c, .int .i64 (n : Int), .int .i64 1, .pointer (some ⟨B, 0, none⟩)] W (WholePost B W (wholeF n r (cur ++ [x])))) :
    Calls Try.prog 63 #[.slice A (nums cur).length c, .int .i64 (n : Int), .int .i64 1, .pointer (some ⟨B, 0, none⟩)] W (WholePost B W ((List.range n).findSome? fun x => if x ∈ cur then none else wholeF n r (cur ++ [x]))) := by
  obtain ⟨k, hk⟩ := every_bool (cur := cur) hn hn2 (by omega) hcur
  rw [decide_eq_true hyes] at hk
  have hcall := sackbutref05_Every.calls k A c (nums cur) (n : Int) true W hC hcap hk
  obtain ⟨L, hlen⟩ : ∃ L, (nums cur).length = L := ⟨_, rfl⟩
  have HL := Aside0.mk hlen
  have HC := Aside0.mk hC
  have hLn : L < n := by rw [← hlen, nums_length]; omega
  have hne : ((L : Int) == (n : Int)) = false := beq_eq_false_iff_ne.2 (by omega)
  rw [hlen] at hcall hcap ⊢
  have HCALL := Aside0.mk hcall
  have HB := Aside0.mk hB
  have HA := Aside0.mk hA
  have HIH := Aside0.mk ih
  have HP := Aside0.mk hpart
  have HLC : (L : Int) ≤ (c : Int) := by omega
  obtain ⟨i0, hi, hz0, hz1, hz2⟩ := info_parts info3
  have HI0 := Aside0.mk hi
  have HZ := Aside0.mk (show i0.zero = some (.int .i64 0) ∧ i0.size = 1 ∧ i0.bytes = 8 from ⟨hz0, hz1, hz2⟩)
  have HNL := Aside0.mk (show ((nums cur).map (Value.int .i64)).length = L * 1 by rw [List.length_map, hlen, Nat.mul_one])
  have HNONE := Aside0.mk (show A = none → L = 0 ∧ L = 0 from fun e => by
    rcases Nat.eq_zero_or_pos L with h | h
    · exact ⟨h, h⟩
    · obtain ⟨ad, e2, _⟩ := Kd.at_int hC 0 (by omega) (by omega)
      rw [e] at e2; cases e2)
  clear hcall hk hC hB hyes hlen hA ih hpart hi hz0 hz1 hz2 hcur hcap
  go_enter Try.func63, Try.ntmps63
  go_wp2_with fail
  refine HCALL.out.mono ?_
  rintro e w1 ⟨rfl, hb⟩
  have HB1 := Aside0.mk hb
  have HBX := Aside0.mk (box_below (base' := W.heap.size) HB.out hb)
  clear hb
  have hBl : B < W.heap.size := World.block_lt_of_cell? W _ HB.out.2
  have HBL := Aside0.mk hBl
  have HFR1 := Aside0.mk (Fr.of_below (P := fun i => i ≠ B ∧ i < W.heap.size) HB1.out (fun k hk => hk.2))
  clear hBl
  go_wp2
  go_loopg [9, 37] n (fun gg s9 s37 wr => ∃ x : Nat, s37 = .int .i64 x ∧ s9 = .int .i64 0 ∧ Aside0 (x + gg = n) ∧ Aside0 (BoxF B W.heap.size none wr) ∧ Aside0 (Fr (fun i => i ≠ B ∧ i < W.heap.size) W wr) ∧ Aside0 (((List.range x).findSome? fun x => if x ∈ cur then none else wholeF n r (cur ++ [x])) = none))
  case atStart => exact ⟨0, rfl, rfl, ⟨by omega⟩, HBX, HFR1, ⟨rfl⟩⟩
  case round =>
    obtain ⟨x, rfl, rfl, HX, HBo, HFo, HF0⟩ := hrel
    obtain ⟨wo, hwo⟩ : ∃ wo : World, wo = wr := ⟨wr, rfl⟩
    subst hwo
    by_cases hx : x < n
    · have hxz : (x : Int) < (n : Int) := by omega
      have HCo := Aside0.mk (C_fr2 HC.out (fun b hb h0 => HA.out b hb (by rw [nums_length] at h0; exact h0)) HFo.out)
      have HCB := Aside0.mk (nums_cells (W := wo.alloc (.cells #[.int .i64 (x : Int)] 3)) (A := A) (cur := cur) (Kd.C_alloc HCo.out _))
      have HNC := Aside0.mk (new_cell wo (.int .i64 (x : Int)) 3)
      go_wp2_with (((with_reducible refine gate_builtin (b := .append) (xs := #[.tmp 45, .tmp 47]) rfl ?_); at_builtin; refine wpList_append_grows _ rfl _ _ 22 rfl 3 i0 (.int .i64 0) 1 8 Try.underlying22 HI0.out HZ.out.1 HZ.out.2.1 HZ.out.2.2 rfl (by decide) A L L ((nums cur).map (Value.int .i64)) rfl HNONE.out HNL.out HCB.out ⟨wo.heap.size, 0, none⟩ 1 1 [.int .i64 (x : Int)] rfl rfl ?c1 ?c2 (by omega) ?c3 ?c4 ?_; (case c1 => intro j u hu; cases j with
        | zero => simp only [List.getElem?_cons_zero, Option.some.injEq] at hu; subst hu; exact HNC.out.1
        | succ j => simp at hu); (case c2 => intro u hu; rw [List.mem_singleton] at hu; subst hu; rfl); (case c3 => simp only [maxLen]; omega); (case c4 => omega); intro v5 w5 ho5 hg5))
      have hrow : (((nums cur).map (Value.int .i64)) ++ [Value.int .i64 (x : Int)]) = (nums (cur ++ [x])).map (Value.int .i64) := by rw [nums_snoc]; simp
      have hlen2 : L + 1 = (nums (cur ++ [x])).length := by rw [nums_snoc, List.length_append, HL.out]; rfl
      rw [hrow] at ho5
      have ho6 := ho5
      rw [hlen2] at ho6
      have hR5 := R_fresh ho6
      obtain ⟨A5, c5, e5⟩ := Kd.R_slice hR5
      subst e5
      have hb5 : Below wo.heap.size wo w5 := ((below_alloc (Below.refl wo.heap.size wo) _).grown hg5 (by simp) (fun k e => by cases e))
      have HB5 := Aside0.mk hb5
      have HR5 := Aside0.mk hR5
      have HLN2 := Aside0.mk hlen2
      have HBo5 := Aside0.mk (box_below (base' := w5.heap.size) HBo.out hb5)
      have hBlo : B < wo.heap.size := Nat.lt_of_lt_of_le HBL.out HFo.out.size
      have HA5 := Aside0.mk (show ∀ b, A5 = some b → b.block ≠ B ∧ b.block < w5.heap.size from fun b hb => by
        have h1 := Kd.R_base hR5 b.block (by rw [hb]; rfl)
        have h2 := Kd.R_lt hR5 b.block (by rw [hb]; rfl)
        rw [World.size_alloc] at h1
        exact ⟨by omega, h2⟩)
      obtain ⟨kp, hkp⟩ := Ev.rounds (g := fun k => sackbutref05_Part.f k (nums (cur ++ [x])) (n : Int)) (Part_ev (nums (cur ++ [x])) n (by omega) (by rw [← hlen2]; omega))
      have hpc := sackbutref05_Part.calls kp A5 c5 (nums (cur ++ [x])) (n : Int) _ w5 (Kd.R_reads' hR5).2.2 (Kd.R_reads' hR5).2.1 hkp
      have HPS := Aside0.mk (part_snoc hx HP.out)
      rw [← hlen2] at hpc ⊢
      clear ho5 ho6 hR5 hb5 hg5 hrow hlen2 hkp hBlo
      by_cases hm : x ∈ cur
      · rw [decide_eq_false (fun h => HPS.out.1 h hm)] at hpc
        have HPC := Aside0.mk hpc
        have HF1 := Aside0.mk (wholeF_next HF0.out (show (if x ∈ cur then none else wholeF n r (cur ++ [x])) = none from if_pos hm))
        clear hpc hm
        go_wp2_with fail
        refine HPC.out.mono ?_
        rintro e w6 ⟨rfl, hd⟩
        obtain ⟨qd, rfl⟩ := hd
        go_wp2
        have hbq : Below wo.heap.size wo (w5.drewN qd) := pw_below_drewN HB5.out qd
        go_roundg (gk - 1)
        case measure => have := HX.out; omega
        case rel => exact ⟨x + 1, by first | go_num | (rw [wrap_id (by omega) (by omega)]; rfl), rfl, ⟨by have := HX.out; omega⟩, ⟨box_below HBo.out hbq⟩, ⟨HFo.out.trans (Fr.of_below hbq (fun i hi => Nat.lt_of_lt_of_le hi.2 HFo.out.size))⟩, HF1⟩
      · rw [decide_eq_true (HPS.out.2 hm)] at hpc
        have HPC := Aside0.mk hpc
        have HFX := Aside0.mk (fun (o : Option (List Nat)) (h : wholeF n r (cur ++ [x]) = o) => (if_neg hm : (if x ∈ cur then none else wholeF n r (cur ++ [x])) = wholeF n r (cur ++ [x])).trans h)
        have HM := Aside0.mk hm
        clear hpc hm
        go_wp2_with fail
        refine HPC.out.mono ?_
        rintro e w6 ⟨rfl, hd⟩
        have hb6 : Below w5.heap.size w5 w6 := by obtain ⟨qd, rfl⟩ := hd; exact pw_below_drewN (Below.refl _ _) qd
        have hrun := HIH.out x A5 c5 w6 hx HM.out (Kd.C_below (Kd.R_reads' HR5.out).2.2 hb6) (Kd.R_reads' HR5.out).2.1 (fun b hb _ => ⟨(HA5.out b hb).1, Nat.lt_of_lt_of_le (HA5.out b hb).2 hb6.size⟩) (box_below HBo5.out hb6)
        rw [← HLN2.out] at hrun
        have HB6 := Aside0.mk (HB5.out.trans (hb6.mono HB5.out.size))
        generalize ho : wholeF n r (cur ++ [x]) = o at hrun
        have HRUN := Aside0.mk hrun
        have HOO := Aside0.mk ho
        clear hd hb6 hrun ho
        cases o with
        | none =>
          have HF1 := Aside0.mk (wholeF_next HF0.out (HFX.out _ HOO.out))
          go_wp2_with fail
          refine HRUN.out.mono ?_
          rintro e w7 ⟨rfl, hbx, hf7⟩
          rw [if_pos rfl]
          have hc7 := hbx.2
          simp only at hc7
          have HBX7 := Aside0.mk (show BoxF B W.heap.size none w7 from hbx)
          have HF7 := Aside0.mk hf7
          clear hbx hf7
          go_wp2
          go_roundg (gk - 1)
          case measure => have := HX.out; omega
          case rel => exact ⟨x + 1, by first | go_num | (rw [wrap_id (by omega) (by omega)]; rfl), by first | rfl | go_num, ⟨by have := HX.out; omega⟩, HBX7, ⟨HFo.out.trans ((Fr.of_below HB6.out (fun i hi => Nat.lt_of_lt_of_le hi.2 HFo.out.size)).trans (HF7.out.mono (fun i hi => ⟨hi.1, Nat.lt_of_lt_of_le hi.2 (Nat.le_trans HFo.out.size HB6.out.size)⟩)))⟩, HF1⟩
        | some l =>
          have HF1 := Aside0.mk (findSome_upto (fun x => if x ∈ cur then none else wholeF n r (cur ++ [x])) hx HF0.out (HFX.out _ HOO.out))
          go_wp2_with fail
          refine HRUN.out.mono ?_
          rintro e w7 ⟨rfl, hbx, hf7⟩
          rw [if_neg (by simp)]
          obtain ⟨hz7, g7, c7, rv7, hc7, hg7, hcr7, hR7⟩ := hbx
          have HZ7 := Aside0.mk hz7
          have HC7 := Aside0.mk hc7
          have HG7 := Aside0.mk hg7
          have HCR7 := Aside0.mk hcr7
          have HR7 := Aside0.mk hR7
          have HF7 := Aside0.mk hf7
          clear hz7 hg7 hcr7 hR7 hf7
          go_wp2
          go_ret
          have hs6 : W.heap.size ≤ w6.heap.size := Nat.le_trans HFo.out.size HB6.out.size
          rw [HF1.out]
          exact ⟨by simp, ⟨HZ7.out, g7, c7, rv7, HC7.out, Nat.le_trans hs6 HG7.out, HCR7.out, Kd.R_lower HR7.out hs6⟩, HFo.out.trans ((Fr.of_below HB6.out (fun i hi => Nat.lt_of_lt_of_le hi.2 HFo.out.size)).trans (HF7.out.mono (fun i hi => ⟨hi.1, Nat.lt_of_lt_of_le hi.2 hs6⟩)))⟩
    · have hxn : x = n := by have := HX.out; omega
      have hxz : ¬ (x : Int) < (n : Int) := by omega
      have HF9 := Aside0.mk (show ((List.range n).findSome? fun x => if x ∈ cur then none else wholeF n r (cur ++ [x])) = none from by have h := HF0.out; rw [hxn] at h; exact h)
      clear hxn
      go_wp2
      go_ret
      rw [HF9.out]
      exact ⟨by simp, HBo.out, HFo.out⟩
theorem wholeF_eq (n r : Nat) (cur : List Nat) : wholeF n (r + 1) cur = if (stepsOf n (nums cur)).Nodup then ((List.range n).findSome? fun x => if x ∈ cur then none else wholeF n r (cur ++ [x])) else none := by rw [wholeF]
theorem wholeF_zero (n : Nat) (cur : List Nat) : wholeF n 0 cur = if (stepsOf n (nums cur)).Nodup then some cur else none := by rw [wholeF]
theorem wholeR_calls {n B : Nat} (hn : 1 ≤ n) (hn2 : n ≤ 40) : ∀ (r : Nat) {cur : List Nat} {A : Option Addr} {c : Nat} {W : World}, cur.length + r = n → (∀ y ∈ cur, y < n) → PartOf n (nums cur) → Kd.C (Kd.int .i64) W A (nums cur).length (nums cur) → (nums cur).length ≤ c → (∀ b, A = some b → 0 < cur.length → b.block ≠ B ∧ b.block < W.heap.size) → BoxF B W.heap.size none W →
    Calls Try.prog 63 #[.slice A (nums cur).length c, .int .i64 (n : Int), .int .i64 1, .pointer (some ⟨B, 0, none⟩)] W (WholePost B W (wholeF n r cur)) := by
  intro r
  induction r with
  | zero =>
    intro cur A c W hl hcur hp hC hcap hA hB
    rw [wholeF_zero]
    by_cases h : (stepsOf n (nums cur)).Nodup
    · rw [if_pos h]; exact whole_end hn hn2 (by omega) hcur hC hcap hB h
    · rw [if_neg h]; exact whole_not hn hn2 (by omega) hcur hC hcap hB h
  | succ r ih =>
    intro cur A c W hl hcur hp hC hcap hA hB
    rw [wholeF_eq]
    by_cases h : (stepsOf n (nums cur)).Nodup
    · rw [if_pos h]
      exact whole_more r hn hn2 hl hcur hp hC hcap hA hB h (fun x A c W hx hm hC hcap hA hB => ih (by rw [List.length_append, List.length_singleton]; omega) (fun y hy => by
        rcases List.mem_append.1 hy with h | h
        · exact hcur y h
        · rw [List.mem_singleton] at h; omega) ((part_snoc hx hp).2 hm) hC hcap hA hB)
    · rw [if_neg h]; exact whole_not hn hn2 (by omega) hcur hC hcap hB h

end Go.Proofs.Ytpfjnpbcnlbhaaa.P
namespace Go.Proofs.Ytpfjnpbcnlbhaaa.P
open Go.RowKit Go.Proofs.YtpfjnpbcnlbhaaaW.PrintWords Go.Proofs.YtpfjnpbcnlbhaaaW.PrintLast Go.Proofs.YtpfjnpbcnlbhaaaW.PrintMore
attribute [local go_sem] max2_int min2_int max_two min_two max_three min_three max_four min_four   -- for this text's walks alone
set_option linter.unusedVariables false
set_option linter.unusedSimpArgs false

/-! the document's Fill -/
def sackbutref05_Fill.f (l0 : List Int) (a1 : Int) : Option (List Int × Int) := if 2 ≤ a1 ∧ a1 ≤ 10 ∧ (l0.length : Int) ≤ a1 ∧ PartOf a1.toNat l0 then some (optL (wholeF a1.toNat (a1.toNat - l0.length) (toNats l0)), if wholeF a1.toNat (a1.toNat - l0.length) (toNats l0) = none then 4 else 0) else none
set_option maxHeartbeats 8000000 in
set_option maxRecDepth 100000 in
theorem sackbutref05_Fill.calls (A0 : Option Addr) (c0 : Nat) (l0 : List Int) (a1 : Int) (r1 : List Int) (r2 : Int) (w : World) (hr0 : Kd.C (Kd.int .i64) w A0 l0.length l0) (hc0 : l0.length ≤ c0) (h : sackbutref05_Fill.f l0 a1 = some (r1, r2)) :
    Calls Try.prog 35 #[.slice A0 l0.length c0, .int .i64 a1] w fun e w' => ∃ v0_ : Value, e = .returned (.tuple #[v0_, .int .i64 r2]) ∧ Kd.R (Kd.int .i64) 3 w' w.heap.size (fun _ => True) v0_ r1 ∧ Below w.heap.size w w' := by
  unfold sackbutref05_Fill.f at h
  by_cases hc : 2 ≤ a1 ∧ a1 ≤ 10 ∧ (l0.length : Int) ≤ a1 ∧ PartOf a1.toNat l0
  · rw [if_pos hc] at h
    injection h with h
    injection h with h1 h2
    obtain ⟨n, rfl⟩ : ∃ n : Nat, a1 = (n : Int) := ⟨a1.toNat, by omega⟩
    rw [Int.toNat_natCast] at hc h1 h2
    obtain ⟨b, hb⟩ : ∃ b, toNats l0 = b := ⟨_, rfl⟩
    have hnb : nums b = l0 := by rw [← hb]; exact nums_toNats l0 (fun x hx => (hc.2.2.2.1 x hx).1)
    have hbr : ∀ y ∈ b, y < n := fun y hy => by
      rw [← hb] at hy
      unfold toNats at hy
      obtain ⟨x, hx, rfl⟩ := List.mem_map.1 hy
      have := hc.2.2.2.1 x hx; omega
    have hbl : b.length = l0.length := by rw [← hnb, nums_length]
    rw [hb] at h1 h2
    generalize ho : wholeF n (n - l0.length) b = o at h1 h2
    obtain ⟨W1, hW1⟩ : ∃ W1, w.alloc (.cells #[.slice none 0 0] 53) = W1 := ⟨_, rfl⟩
    have hb1 : Below w.heap.size w W1 := by rw [← hW1]; exact below_alloc (Below.refl _ _) _
    have hnew := new_cell w (.slice none 0 0) 53
    rw [hW1] at hnew
    have hrun := wholeR_calls (n := n) (B := w.heap.size) (by omega) (by omega) (n - l0.length) (cur := b) (A := A0) (c := c0) (W := W1) (by omega) hbr (by rw [hnb]; exact hc.2.2.2) (by rw [hnb]; exact Kd.C_below hr0 hb1) (by rw [hnb]; exact hc0) (fun g hg h0 => by
      obtain ⟨ad, e, hcell⟩ := Kd.at_int hr0 0 (by omega) (by omega)
      rw [hg] at e
      injection e with e
      subst e
      have := World.block_lt_of_cell? w _ hcell
      rw [show (0 : Int).toNat = 0 from rfl, add_block_] at this
      exact ⟨by omega, Nat.lt_of_lt_of_le this hb1.size⟩) ⟨hnew.2, hnew.1⟩
    rw [hnb, ho] at hrun
    obtain ⟨L, hL⟩ : ∃ L, l0.length = L := ⟨_, rfl⟩
    rw [hL] at hrun ⊢
    have HRUN := Aside0.mk hrun
    have HW1 := Aside0.mk hW1
    have HB1 := Aside0.mk hb1
    have H1 := Aside0.mk h1
    have H2 := Aside0.mk h2
    clear hc hr0 hc0 hb hnb hbr hbl ho hW1 hb1 hnew hrun hL h1 h2
    go_enter Try.func35, Try.ntmps35
    go_wp2_with fail
    rw [HW1.out]
    refine HRUN.out.mono ?_
    rintro e w2 ⟨rfl, hbx, hf⟩
    have hbw : Below w.heap.size w w2 := HB1.out.trans (hf.below (B := w.heap.size) (fun k hk => ⟨by omega, Nat.lt_of_lt_of_le hk HB1.out.size⟩))
    have HBW := Aside0.mk hbw
    have hs1 := HB1.out.size
    clear hbw hf
    cases o with
    | none =>
      have hc7 := hbx.2
      simp only at hc7
      rw [if_pos rfl]
      clear hbx hs1
      go_wp2
      go_ret2
      have e1 : r1 = [] := H1.out.symm
      have e2 : r2 = 4 := by have h := H2.out; simp at h; exact h.symm
      rw [e1, e2]
      exact ⟨_, rfl, Kd.R_nil _ _ _ _ _, HBW.out⟩
    | some l =>
      obtain ⟨hz7, g7, c7, rv7, hc7, hg7, hcr7, hR7⟩ := hbx
      rw [if_neg (by simp)]
      have HR7 := Aside0.mk (Kd.R_lower hR7 hs1)
      obtain ⟨Ar, cr, er⟩ := Kd.R_slice hR7
      subst er
      obtain ⟨Lr, hLr⟩ : ∃ Lr, (nums l).length = Lr := ⟨_, rfl⟩
      rw [hLr] at hcr7 HR7
      have hcr8 : w2.cell? ((⟨g7, 0, none⟩ : Addr).add 0) = some (.slice Ar Lr cr) := hcr7
      clear hz7 hg7 hR7 hLr hs1
      go_wp2
      go_ret2
      have e1 : r1 = nums l := H1.out.symm
      have e2 : r2 = 0 := by have h := H2.out; simp at h; exact h.symm
      rw [e1, e2]
      exact ⟨_, rfl, HR7.out, HBW.out⟩
  · rw [if_neg hc] at h; cases h

end Go.Proofs.Ytpfjnpbcnlbhaaa.P
namespace Go.Proofs.Ytpfjnpbcnlbhaaa.P
open Go.RowKit Go.Proofs.YtpfjnpbcnlbhaaaW.PrintWords Go.Proofs.YtpfjnpbcnlbhaaaW.PrintLast Go.Proofs.YtpfjnpbcnlbhaaaW.PrintMore
attribute [local go_sem] max2_int min2_int max_two min_two max_three min_three max_four min_four   -- for this text's walks alone
set_option linter.unusedVariables false
set_option linter.unusedSimpArgs false

/-! ### sackbutlaw05_RowsFills: function 9 -/
def sackbutlaw05_RowsFills.j0 : Nat → List Int → Int → List Int → Int → Bool → Option (Bool)
  | 0, _, _, _, _, _ => none
  | k + 1, x0, x1, x5, x6, x27 => if x27 = true then (if (x5.length : Int) = 0 then (if x6 = 2 then ((sackbutlaw05_awake.f k).bind fun t1009 => (some t1009)) else (some false)) else (some false)) else ((sackbutref05_Fill.f x0 x1).bind fun bt1010 => ((slices_Equal_int_int.f k x5 bt1010.1).bind fun t1014 => (if t1014 = true then (if x6 = bt1010.2 then ((sackbutlaw05_awake.f k).bind fun t1015 => (some t1015)) else (some false)) else (some false))))
def sackbutlaw05_RowsFills.f (k : Nat) (l0 : List Int) (a1 : Int) : Option (Bool) := (sackbutlaw05_list.f l0).bind fun t1001 => ((rows_Fill.f t1001 a1).bind fun bt1004 => (if a1 < 2 then (sackbutlaw05_RowsFills.j0 k l0 a1 bt1004.1 bt1004.2 true) else (if a1 > 10 then (sackbutlaw05_RowsFills.j0 k l0 a1 bt1004.1 bt1004.2 true) else ((sackbutref05_Part.f k l0 a1).bind fun t1008 => (sackbutlaw05_RowsFills.j0 k l0 a1 bt1004.1 bt1004.2 (!t1008))))))
theorem sackbutlaw05_RowsFills.mono_l : ∀ k, (∀ y0 y1 y2 y3 y4, LeO (sackbutlaw05_RowsFills.j0 k y0 y1 y2 y3 y4) (sackbutlaw05_RowsFills.j0 (k + 1) y0 y1 y2 y3 y4))
  | 0 => fun _ _ _ _ _ r h => by simp [sackbutlaw05_RowsFills.j0] at h
  | k + 1 => by
    have ih0 := sackbutlaw05_RowsFills.mono_l k
    · intro y0 y1 y2 y3 y4
      unfold sackbutlaw05_RowsFills.j0
      repeat' first
      | (with_reducible exact ih0 _ _ _ _ _)
      | (with_reducible exact sackbutlaw05_awake.mono _)
      | (with_reducible exact sackbutref05_Part.mono _ _ _)
      | (with_reducible exact slices_Equal_int_int.mono _ _ _)
      | (with_reducible exact LeO.refl _)
      | (with_reducible exact LeO.none _)
      | (with_reducible refine LeO.ite ?_ ?_)
      | (with_reducible refine LeO.bind ?_ (fun _ => ?_))
      | exact ih0 _ _ _ _ _
      | exact sackbutlaw05_awake.mono _
      | exact sackbutref05_Part.mono _ _ _
      | exact slices_Equal_int_int.mono _ _ _
      | exact LeO.none _
      | refine LeO.ite ?_ ?_
      | refine LeO.bind ?_ (fun _ => ?_)
theorem sackbutlaw05_RowsFills.mono : ∀ a0 a1 k, LeO (sackbutlaw05_RowsFills.f k a0 a1) (sackbutlaw05_RowsFills.f (k + 1) a0 a1) := by
  intro a0 a1 k
  have ih0 := sackbutlaw05_RowsFills.mono_l k
  unfold sackbutlaw05_RowsFills.f
  repeat' first
      | (with_reducible exact ih0 _ _ _ _ _)
      | (with_reducible exact sackbutlaw05_awake.mono _)
      | (with_reducible exact sackbutref05_Part.mono _ _ _)
      | (with_reducible exact slices_Equal_int_int.mono _ _ _)
      | (with_reducible exact LeO.refl _)
      | (with_reducible exact LeO.none _)
      | (with_reducible refine LeO.ite ?_ ?_)
      | (with_reducible refine LeO.bind ?_ (fun _ => ?_))
      | exact ih0 _ _ _ _ _
      | exact sackbutlaw05_awake.mono _
      | exact sackbutref05_Part.mono _ _ _
      | exact slices_Equal_int_int.mono _ _ _
      | exact LeO.none _
      | refine LeO.ite ?_ ?_
      | refine LeO.bind ?_ (fun _ => ?_)
set_option maxHeartbeats 8000000 in
set_option maxRecDepth 100000 in
theorem sackbutlaw05_RowsFills.calls (k : Nat) (A0 : Option Addr) (c0 : Nat) (l0 : List Int) (a1 : Int) (r : Bool) (w : World) (hr0 : Kd.C (Kd.int .i64) w A0 l0.length l0) (hc0 : l0.length ≤ c0) (h : sackbutlaw05_RowsFills.f k l0 a1 = some r) :
    Calls Try.prog 9 #[.slice A0 l0.length c0, .int .i64 a1] w fun e w' => e = .returned (.bool r) ∧ Below w.heap.size w w' := by
  have HR0 := Aside0.mk hr0
  have HC0 := Aside0.mk hc0
  clear hr0 hc0
  have HB := Aside0.mk (Below.refl w.heap.size w)
  have H : ((sackbutlaw05_list.f l0).bind fun t1001 => ((rows_Fill.f t1001 a1).bind fun bt1004 => (if a1 < 2 then (sackbutlaw05_RowsFills.j0 k l0 a1 bt1004.1 bt1004.2 true) else (if a1 > 10 then (sackbutlaw05_RowsFills.j0 k l0 a1 bt1004.1 bt1004.2 true) else ((sackbutref05_Part.f k l0 a1).bind fun t1008 => (sackbutlaw05_RowsFills.j0 k l0 a1 bt1004.1 bt1004.2 (!t1008))))))) = some r := h
  clear h
  replace H := Option.bind_eq_some_iff.mp H
  obtain ⟨t1001, A30, H⟩ := H
  replace H : ((rows_Fill.f t1001 a1).bind fun bt1004 => (if a1 < 2 then (sackbutlaw05_RowsFills.j0 k l0 a1 bt1004.1 bt1004.2 true) else (if a1 > 10 then (sackbutlaw05_RowsFills.j0 k l0 a1 bt1004.1 bt1004.2 true) else ((sackbutref05_Part.f k l0 a1).bind fun t1008 => (sackbutlaw05_RowsFills.j0 k l0 a1 bt1004.1 bt1004.2 (!t1008)))))) = some r := H
  have A3 := Aside0.mk A30
  clear A30
  replace H := Option.bind_eq_some_iff.mp H
  obtain ⟨⟨t1004, t1005⟩, A40, H⟩ := H
  replace H : (if a1 < 2 then (sackbutlaw05_RowsFills.j0 k l0 a1 t1004 t1005 true) else (if a1 > 10 then (sackbutlaw05_RowsFills.j0 k l0 a1 t1004 t1005 true) else ((sackbutref05_Part.f k l0 a1).bind fun t1008 => (sackbutlaw05_RowsFills.j0 k l0 a1 t1004 t1005 (!t1008))))) = some r := H
  have A4 := Aside0.mk A40
  clear A40
  have HC5 := Aside0.mk H
  clear H
  go_enter Try.func9, Try.ntmps9
  go_upto_region 2 with (first | ((with_reducible refine gate_callee (f := 16) rfl ?_); refine goesL_ (some 11) rfl rfl Try.func16 (by kernel_rfl) rfl #[.slice A0 l0.length c0] rfl (by (try simp only [List.map_toArray, List.map_cons, List.map_nil]); first | done | rfl | (simp only [List.length_drop, List.length_take]; rfl)) ?_; (with_reducible refine (sackbutlaw05_list.calls _ _ l0 t1001 _ ?side1 ?side2 A3.out).mono ?_); (case side1 => repeat (first | exact HR0.out | (with_reducible refine Kd.C_alloc ?_ _) | (with_reducible refine Kd.C_drewN ?_ _) | (with_reducible refine Kd.C_drew ?_))); (case side2 => exact HC0.out); rintro e w6 ⟨v1002, rfl, ho0, hb⟩; refine ⟨_, rfl, ?_⟩; have n0_ := Aside0.mk (Kd.R_lower ho0 (below_size (by repeat (first | (with_reducible first | exact HB.out | apply below_alloc | apply pw_below_drewN | apply below_drew1) | exact HB.out)))); have n1_ := Aside0.mk (below_step (by repeat (first | (with_reducible first | exact HB.out | apply below_alloc | apply pw_below_drewN | apply below_drew1) | exact HB.out)) hb); clear HB; have HO1003 := n0_; have HB := n1_; clear n0_ n1_; (try clear hb); (try clear hb2); (try clear hk); (try clear hi); (try clear ho0); obtain ⟨Ao7, co7, eo7⟩ := Kd.R_slice HO1003.out; subst eo7) | ((with_reducible refine gate_callee (f := 33) rfl ?_); refine goesL_ (some 13) rfl rfl Try.func33 (by kernel_rfl) rfl #[.slice Ao7 t1001.length co7, .int .i64 a1] rfl (by (try simp only [List.map_toArray, List.map_cons, List.map_nil]); first | done | rfl | (simp only [List.length_drop, List.length_take]; rfl)) ?_; (with_reducible refine (rows_Fill.calls _ _ t1001 a1 t1004 t1005 _ ?side1 ?side2 A4.out).mono ?_); (case side1 => repeat (first | exact (Kd.R_reads' HO1003.out).2.2 | (with_reducible refine Kd.C_alloc ?_ _) | (with_reducible refine Kd.C_drewN ?_ _) | (with_reducible refine Kd.C_drew ?_))); (case side2 => exact (Kd.R_reads' HO1003.out).2.1); rintro e w8 ⟨v1006, rfl, ho0, hb⟩; refine ⟨_, rfl, ?_⟩; have n0_ := Aside0.mk (Kd.R_elder' (by (with_reducible repeat (first | apply Kd.R_alloc | apply Kd.R_drewN | apply Kd.R_drew)); exact HO1003.out) (Kd.R_base ho0) hb); have n1_ := Aside0.mk (Kd.R_lower (Kd.R_new' ho0 (Kd.R_lt (by (with_reducible repeat (first | apply Kd.R_alloc | apply Kd.R_drewN | apply Kd.R_drew)); exact HO1003.out))) (below_size (by repeat (first | (with_reducible first | exact HB.out | apply below_alloc | apply pw_below_drewN | apply below_drew1) | exact HB.out)))); have n2_ := Aside0.mk (below_step (by repeat (first | (with_reducible first | exact HB.out | apply below_alloc | apply pw_below_drewN | apply below_drew1) | exact HB.out)) hb); clear HO1003; clear HB; have HO1003 := n0_; have HO1007 := n1_; have HB := n2_; clear n0_ n1_ n2_; (try clear hb); (try clear hb2); (try clear hk); (try clear hi); (try clear ho0)))
  (try simp only [Act.put, List.setIfInBounds_toArray, List.set_cons_zero, List.set_cons_succ])
  go_cut [27] (fun v27 wc => ∃ (kq : Nat) (x27_4 : Bool), v27 = .bool x27_4 ∧ Aside0 (sackbutlaw05_RowsFills.j0 kq l0 a1 t1004 t1005 x27_4 = some r) ∧ Aside0 (kq ≤ k) ∧ Aside0 (Kd.R (Kd.int .i64) 3 wc w.heap.size (fun _ => True) v1006 t1004) ∧ Aside0 (Below w.heap.size w wc))
  case first =>
    have H := HC5.out
    clear HC5
    by_cases c9 : a1 < 2
    · rw [if_pos c9] at H
      have c9b0 : decide (a1 < 2) = true := decide_eq_true c9
      clear c9
      (first | rw [c9b0] | (simp only [i64_w, i32_w]; rw [c9b0]) | skip)
      have H' := Aside0.mk H
      clear H
      go_wp2
      go_meet
      case rel => exact ⟨_, (true), (by first | rfl | (simp; done) | (simp [*]; done)), H', ⟨by first | omega | exact Nat.le_refl _⟩, ⟨by (with_reducible repeat (first | apply Kd.R_alloc | apply Kd.R_drewN | apply Kd.R_drew)); exact Kd.R_mono HO1007.out (fun _ hk => trivial)⟩, ⟨by repeat (first | (with_reducible first | exact HB.out | apply below_alloc | apply pw_below_drewN | apply below_drew1) | exact HB.out)⟩⟩
    · rw [if_neg c9] at H
      have c9b0 : decide (a1 < 2) = false := decide_eq_false c9
      clear c9
      (first | rw [c9b0] | (simp only [i64_w, i32_w]; rw [c9b0]) | skip)
      by_cases c10 : a1 > 10
      · rw [if_pos c10] at H
        have c10b0 : decide (10 < a1) = true := decide_eq_true c10
        clear c10
        have H' := Aside0.mk H
        clear H
        go_wp2
        go_meet
        case rel => exact ⟨_, (true), (by first | rfl | (simp; done) | (simp [*]; done)), H', ⟨by first | omega | exact Nat.le_refl _⟩, ⟨by (with_reducible repeat (first | apply Kd.R_alloc | apply Kd.R_drewN | apply Kd.R_drew)); exact Kd.R_mono HO1007.out (fun _ hk => trivial)⟩, ⟨by repeat (first | (with_reducible first | exact HB.out | apply below_alloc | apply pw_below_drewN | apply below_drew1) | exact HB.out)⟩⟩
      · rw [if_neg c10] at H
        have c10b0 : decide (10 < a1) = false := decide_eq_false c10
        clear c10
        replace H := Option.bind_eq_some_iff.mp H
        obtain ⟨t1008, A110, H⟩ := H
        replace H : (sackbutlaw05_RowsFills.j0 k l0 a1 t1004 t1005 (!t1008)) = some r := H
        have A11 := Aside0.mk A110
        clear A110
        have H' := Aside0.mk H
        clear H
        go_wp2_with (first | (go_at_call 34; (with_reducible refine (sackbutref05_Part.calls k _ _ l0 a1 t1008 _ ?side1 ?side2 A11.out).mono ?_); (case side1 => repeat (first | exact (Kd.C_below HR0.out HB.out) | (with_reducible refine Kd.C_alloc ?_ _) | (with_reducible refine Kd.C_drewN ?_ _) | (with_reducible refine Kd.C_drew ?_))); (case side2 => exact HC0.out); rintro e w' ⟨rfl, ⟨nd, rfl⟩⟩))
        go_meet
        case rel => exact ⟨_, (!t1008), (by first | rfl | (simp; done) | (simp [*]; done)), H', ⟨by first | omega | exact Nat.le_refl _⟩, ⟨by (with_reducible repeat (first | apply Kd.R_alloc | apply Kd.R_drewN | apply Kd.R_drew)); exact Kd.R_mono HO1007.out (fun _ hk => trivial)⟩, ⟨by repeat (first | (with_reducible first | exact HB.out | apply below_alloc | apply pw_below_drewN | apply below_drew1) | exact HB.out)⟩⟩
  case rest =>
    clear HC5
    try clear c1
    try clear p2
    try clear c3
    try clear c9
    try clear c9b0
    try clear c10
    try clear c10b0
    obtain ⟨kq, x27_4, rfl, HA, HJ4, HO_5, HB⟩ := hcut
    cases kq with
    | zero => exact absurd HA.out (by simp [sackbutlaw05_RowsFills.j0])
    | succ kj4 =>
      have H := HA.out
      clear HA
      simp only [sackbutlaw05_RowsFills.j0] at H
      by_cases c12 : x27_4 = true
      · subst c12
        have H1 : (if (t1004.length : Int) = 0 then (if t1005 = 2 then ((sackbutlaw05_awake.f kj4).bind fun t1009 => (some t1009)) else (some false)) else (some false)) = some r := by rw [if_pos rfl] at H; exact H
        clear H
        have H := H1
        clear H1
        by_cases c13 : (t1004.length : Int) = 0
        · rw [if_pos c13] at H
          have c13b0 : ((t1004.length : Int) == 0) = true := beq_iff_eq.mpr c13
          have c13b1 : ((t1004.length : Int) != 0) = false := bne_eq_false_iff_eq.mpr c13
          clear c13
          by_cases c14 : t1005 = 2
          · rw [if_pos c14] at H
            have c14b0 : (t1005 == 2) = true := beq_iff_eq.mpr c14
            have c14b1 : (t1005 != 2) = false := bne_eq_false_iff_eq.mpr c14
            clear c14
            replace H := Option.bind_eq_some_iff.mp H
            obtain ⟨t1009, A150, H⟩ := H
            replace H : (some t1009) = some r := H
            have A15 := Aside0.mk A150
            clear A150
            obtain rfl := Option.some.inj H
            obtain ⟨Ao16, co16, eo16⟩ := Kd.R_slice HO_5.out
            subst eo16
            go_wp2_with (first | (go_at_call 19; (with_reducible refine (sackbutlaw05_awake.calls kj4  t1009 _ A15.out).mono ?_); rintro e w17 ⟨rfl, hb⟩; have n0_ := Aside0.mk (Kd.R_below (by (with_reducible repeat (first | apply Kd.R_alloc | apply Kd.R_drewN | apply Kd.R_drew)); exact HO_5.out) hb); have n1_ := Aside0.mk (below_step (by repeat (first | (with_reducible first | exact HB.out | apply below_alloc | apply pw_below_drewN | apply below_drew1) | exact HB.out)) hb); clear HO_5; clear HB; have HO_5 := n0_; have HB := n1_; clear n0_ n1_; (try clear hb); (try clear hb2); (try clear hk); (try clear hi)))
            go_ret
            exact ⟨by first | rfl | (simp [errW_none, errW_some] <;> rfl) | (simp [*, errW_none, errW_some] <;> rfl), by repeat (first | (with_reducible first | exact HB.out | apply below_alloc | apply pw_below_drewN | apply below_drew1) | exact HB.out)⟩
          · rw [if_neg c14] at H
            have c14b0 : (t1005 == 2) = false := beq_eq_false_iff_ne.mpr c14
            have c14b1 : (t1005 != 2) = true := bne_iff_ne.mpr c14
            obtain rfl := Option.some.inj H
            obtain ⟨Ao18, co18, eo18⟩ := Kd.R_slice HO_5.out
            subst eo18
            go_wp2
            go_ret
            exact ⟨by first | rfl | (simp [errW_none, errW_some] <;> rfl) | (simp [*, errW_none, errW_some] <;> rfl), by repeat (first | (with_reducible first | exact HB.out | apply below_alloc | apply pw_below_drewN | apply below_drew1) | exact HB.out)⟩
        · rw [if_neg c13] at H
          have c13b0 : ((t1004.length : Int) == 0) = false := beq_eq_false_iff_ne.mpr c13
          have c13b1 : ((t1004.length : Int) != 0) = true := bne_iff_ne.mpr c13
          have c13b2 : ¬ (t1004 = []) := fun h_ => c13 (by rw [h_]; rfl)
          obtain rfl := Option.some.inj H
          obtain ⟨Ao19, co19, eo19⟩ := Kd.R_slice HO_5.out
          subst eo19
          go_wp2
          go_ret
          exact ⟨by first | rfl | (simp [errW_none, errW_some] <;> rfl) | (simp [*, errW_none, errW_some] <;> rfl), by repeat (first | (with_reducible first | exact HB.out | apply below_alloc | apply pw_below_drewN | apply below_drew1) | exact HB.out)⟩
      · replace c12 := Bool.eq_false_iff.mpr c12
        subst c12
        have H1 : ((sackbutref05_Fill.f l0 a1).bind fun bt1010 => ((slices_Equal_int_int.f kj4 t1004 bt1010.1).bind fun t1014 => (if t1014 = true then (if t1005 = bt1010.2 then ((sackbutlaw05_awake.f kj4).bind fun t1015 => (some t1015)) else (some false)) else (some false)))) = some r := by rw [if_neg (show ¬ (false = true) by decide)] at H; exact H
        clear H
        have H := H1
        clear H1
        replace H := Option.bind_eq_some_iff.mp H
        obtain ⟨⟨t1010, t1011⟩, A200, H⟩ := H
        replace H : ((slices_Equal_int_int.f kj4 t1004 t1010).bind fun t1014 => (if t1014 = true then (if t1005 = t1011 then ((sackbutlaw05_awake.f kj4).bind fun t1015 => (some t1015)) else (some false)) else (some false))) = some r := H
        have A20 := Aside0.mk A200
        clear A200
        replace H := Option.bind_eq_some_iff.mp H
        obtain ⟨t1014, A210, H⟩ := H
        replace H : (if t1014 = true then (if t1005 = t1011 then ((sackbutlaw05_awake.f kj4).bind fun t1015 => (some t1015)) else (some false)) else (some false)) = some r := H
        have A21 := Aside0.mk A210
        clear A210
        by_cases c22 : t1014 = true
        · subst c22
          have H1 : (if t1005 = t1011 then ((sackbutlaw05_awake.f kj4).bind fun t1015 => (some t1015)) else (some false)) = some r := by rw [if_pos rfl] at H; exact H
          clear H
          have H := H1
          clear H1
          by_cases c23 : t1005 = t1011
          · rw [if_pos c23] at H
            have c23b0 : (t1005 == t1011) = true := beq_iff_eq.mpr c23
            have c23b1 : (t1005 != t1011) = false := bne_eq_false_iff_eq.mpr c23
            clear c23
            replace H := Option.bind_eq_some_iff.mp H
            obtain ⟨t1015, A240, H⟩ := H
            replace H : (some t1015) = some r := H
            have A24 := Aside0.mk A240
            clear A240
            obtain rfl := Option.some.inj H
            go_wp2_with (first | ((with_reducible refine gate_callee (f := 35) rfl ?_); refine goesL_ (some 41) rfl rfl Try.func35 (by kernel_rfl) rfl #[.slice A0 l0.length c0, .int .i64 a1] rfl (by (try simp only [List.map_toArray, List.map_cons, List.map_nil]); first | done | rfl | (simp only [List.length_drop, List.length_take]; rfl)) ?_; (with_reducible refine (sackbutref05_Fill.calls _ _ l0 a1 t1010 t1011 _ ?side1 ?side2 A20.out).mono ?_); (case side1 => repeat (first | exact (Kd.C_below HR0.out HB.out) | (with_reducible refine Kd.C_alloc ?_ _) | (with_reducible refine Kd.C_drewN ?_ _) | (with_reducible refine Kd.C_drew ?_))); (case side2 => exact HC0.out); rintro e w25 ⟨v1012, rfl, ho0, hb⟩; refine ⟨_, rfl, ?_⟩; have n0_ := Aside0.mk (Kd.R_elder' (by (with_reducible repeat (first | apply Kd.R_alloc | apply Kd.R_drewN | apply Kd.R_drew)); exact HO_5.out) (Kd.R_base ho0) hb); have n1_ := Aside0.mk (Kd.R_lower (Kd.R_new' ho0 (Kd.R_lt (by (with_reducible repeat (first | apply Kd.R_alloc | apply Kd.R_drewN | apply Kd.R_drew)); exact HO_5.out))) (below_size (by repeat (first | (with_reducible first | exact HB.out | apply below_alloc | apply pw_below_drewN | apply below_drew1) | exact HB.out)))); have n2_ := Aside0.mk (below_step (by repeat (first | (with_reducible first | exact HB.out | apply below_alloc | apply pw_below_drewN | apply below_drew1) | exact HB.out)) hb); clear HO_5; clear HB; have HO_5 := n0_; have HO1013 := n1_; have HB := n2_; clear n0_ n1_ n2_; (try clear hb); (try clear hb2); (try clear hk); (try clear hi); (try clear ho0); obtain ⟨Ao26, co26, eo26⟩ := Kd.R_slice HO_5.out; subst eo26; obtain ⟨Ao27, co27, eo27⟩ := Kd.R_slice HO1013.out; subst eo27) | ((with_reducible refine gate_callee (f := 20) rfl ?_); refine goesL_ (some 46) rfl rfl Try.func20 (by kernel_rfl) rfl #[.slice Ao26 t1004.length co26, .slice Ao27 t1010.length co27] rfl (by (try simp only [List.map_toArray, List.map_cons, List.map_nil]); first | done | rfl | (simp only [List.length_drop, List.length_take]; rfl)) ?_; (with_reducible refine (slices_Equal_int_int.calls kj4 _ _ t1004 _ _ t1010 true _ ?side1 ?side2 ?side3 ?side4 A21.out).mono ?_); (case side1 => repeat (first | exact (Kd.R_reads' HO_5.out).2.2 | (with_reducible refine Kd.C_alloc ?_ _) | (with_reducible refine Kd.C_drewN ?_ _) | (with_reducible refine Kd.C_drew ?_))); (case side2 => exact (Kd.R_reads' HO_5.out).2.1); (case side3 => repeat (first | exact (Kd.R_reads' HO1013.out).2.2 | (with_reducible refine Kd.C_alloc ?_ _) | (with_reducible refine Kd.C_drewN ?_ _) | (with_reducible refine Kd.C_drew ?_))); (case side4 => exact (Kd.R_reads' HO1013.out).2.1); rintro e w' ⟨rfl, ⟨nd, rfl⟩⟩; refine ⟨_, rfl, ?_⟩) | (go_at_call 19; (with_reducible refine (sackbutlaw05_awake.calls kj4  t1015 _ A24.out).mono ?_); rintro e w28 ⟨rfl, hb⟩; have n0_ := Aside0.mk (Kd.R_below (by (with_reducible repeat (first | apply Kd.R_alloc | apply Kd.R_drewN | apply Kd.R_drew)); exact HO_5.out) hb); have n1_ := Aside0.mk (Kd.R_below (by (with_reducible repeat (first | apply Kd.R_alloc | apply Kd.R_drewN | apply Kd.R_drew)); exact HO1013.out) hb); have n2_ := Aside0.mk (below_step (by repeat (first | (with_reducible first | exact HB.out | apply below_alloc | apply pw_below_drewN | apply below_drew1) | exact HB.out)) hb); clear HO_5; clear HO1013; clear HB; have HO_5 := n0_; have HO1013 := n1_; have HB := n2_; clear n0_ n1_ n2_; (try clear hb); (try clear hb2); (try clear hk); (try clear hi)))
            go_ret
            exact ⟨by first | rfl | (simp [errW_none, errW_some] <;> rfl) | (simp [*, errW_none, errW_some] <;> rfl), by repeat (first | (with_reducible first | exact HB.out | apply below_alloc | apply pw_below_drewN | apply below_drew1) | exact HB.out)⟩
          · rw [if_neg c23] at H
            have c23b0 : (t1005 == t1011) = false := beq_eq_false_iff_ne.mpr c23
            have c23b1 : (t1005 != t1011) = true := bne_iff_ne.mpr c23
            obtain rfl := Option.some.inj H
            go_wp2_with (first | ((with_reducible refine gate_callee (f := 35) rfl ?_); refine goesL_ (some 41) rfl rfl Try.func35 (by kernel_rfl) rfl #[.slice A0 l0.length c0, .int .i64 a1] rfl (by (try simp only [List.map_toArray, List.map_cons, List.map_nil]); first | done | rfl | (simp only [List.length_drop, List.length_take]; rfl)) ?_; (with_reducible refine (sackbutref05_Fill.calls _ _ l0 a1 t1010 t1011 _ ?side1 ?side2 A20.out).mono ?_); (case side1 => repeat (first | exact (Kd.C_below HR0.out HB.out) | (with_reducible refine Kd.C_alloc ?_ _) | (with_reducible refine Kd.C_drewN ?_ _) | (with_reducible refine Kd.C_drew ?_))); (case side2 => exact HC0.out); rintro e w29 ⟨v1012, rfl, ho0, hb⟩; refine ⟨_, rfl, ?_⟩; have n0_ := Aside0.mk (Kd.R_elder' (by (with_reducible repeat (first | apply Kd.R_alloc | apply Kd.R_drewN | apply Kd.R_drew)); exact HO_5.out) (Kd.R_base ho0) hb); have n1_ := Aside0.mk (Kd.R_lower (Kd.R_new' ho0 (Kd.R_lt (by (with_reducible repeat (first | apply Kd.R_alloc | apply Kd.R_drewN | apply Kd.R_drew)); exact HO_5.out))) (below_size (by repeat (first | (with_reducible first | exact HB.out | apply below_alloc | apply pw_below_drewN | apply below_drew1) | exact HB.out)))); have n2_ := Aside0.mk (below_step (by repeat (first | (with_reducible first | exact HB.out | apply below_alloc | apply pw_below_drewN | apply below_drew1) | exact HB.out)) hb); clear HO_5; clear HB; have HO_5 := n0_; have HO1013 := n1_; have HB := n2_; clear n0_ n1_ n2_; (try clear hb); (try clear hb2); (try clear hk); (try clear hi); (try clear ho0); obtain ⟨Ao30, co30, eo30⟩ := Kd.R_slice HO_5.out; subst eo30; obtain ⟨Ao31, co31, eo31⟩ := Kd.R_slice HO1013.out; subst eo31) | ((with_reducible refine gate_callee (f := 20) rfl ?_); refine goesL_ (some 46) rfl rfl Try.func20 (by kernel_rfl) rfl #[.slice Ao30 t1004.length co30, .slice Ao31 t1010.length co31] rfl (by (try simp only [List.map_toArray, List.map_cons, List.map_nil]); first | done | rfl | (simp only [List.length_drop, List.length_take]; rfl)) ?_; (with_reducible refine (slices_Equal_int_int.calls kj4 _ _ t1004 _ _ t1010 true _ ?side1 ?side2 ?side3 ?side4 A21.out).mono ?_); (case side1 => repeat (first | exact (Kd.R_reads' HO_5.out).2.2 | (with_reducible refine Kd.C_alloc ?_ _) | (with_reducible refine Kd.C_drewN ?_ _) | (with_reducible refine Kd.C_drew ?_))); (case side2 => exact (Kd.R_reads' HO_5.out).2.1); (case side3 => repeat (first | exact (Kd.R_reads' HO1013.out).2.2 | (with_reducible refine Kd.C_alloc ?_ _) | (with_reducible refine Kd.C_drewN ?_ _) | (with_reducible refine Kd.C_drew ?_))); (case side4 => exact (Kd.R_reads' HO1013.out).2.1); rintro e w' ⟨rfl, ⟨nd, rfl⟩⟩; refine ⟨_, rfl, ?_⟩))
            go_ret
            exact ⟨by first | rfl | (simp [errW_none, errW_some] <;> rfl) | (simp [*, errW_none, errW_some] <;> rfl), by repeat (first | (with_reducible first | exact HB.out | apply below_alloc | apply pw_below_drewN | apply below_drew1) | exact HB.out)⟩
        · replace c22 := Bool.eq_false_iff.mpr c22
          subst c22
          have H1 : (some false) = some r := by rw [if_neg (show ¬ (false = true) by decide)] at H; exact H
          clear H
          have H := H1
          clear H1
          obtain rfl := Option.some.inj H
          go_wp2_with (first | ((with_reducible refine gate_callee (f := 35) rfl ?_); refine goesL_ (some 41) rfl rfl Try.func35 (by kernel_rfl) rfl #[.slice A0 l0.length c0, .int .i64 a1] rfl (by (try simp only [List.map_toArray, List.map_cons, List.map_nil]); first | done | rfl | (simp only [List.length_drop, List.length_take]; rfl)) ?_; (with_reducible refine (sackbutref05_Fill.calls _ _ l0 a1 t1010 t1011 _ ?side1 ?side2 A20.out).mono ?_); (case side1 => repeat (first | exact (Kd.C_below HR0.out HB.out) | (with_reducible refine Kd.C_alloc ?_ _) | (with_reducible refine Kd.C_drewN ?_ _) | (with_reducible refine Kd.C_drew ?_))); (case side2 => exact HC0.out); rintro e w32 ⟨v1012, rfl, ho0, hb⟩; refine ⟨_, rfl, ?_⟩; have n0_ := Aside0.mk (Kd.R_elder' (by (with_reducible repeat (first | apply Kd.R_alloc | apply Kd.R_drewN | apply Kd.R_drew)); exact HO_5.out) (Kd.R_base ho0) hb); have n1_ := Aside0.mk (Kd.R_lower (Kd.R_new' ho0 (Kd.R_lt (by (with_reducible repeat (first | apply Kd.R_alloc | apply Kd.R_drewN | apply Kd.R_drew)); exact HO_5.out))) (below_size (by repeat (first | (with_reducible first | exact HB.out | apply below_alloc | apply pw_below_drewN | apply below_drew1) | exact HB.out)))); have n2_ := Aside0.mk (below_step (by repeat (first | (with_reducible first | exact HB.out | apply below_alloc | apply pw_below_drewN | apply below_drew1) | exact HB.out)) hb); clear HO_5; clear HB; have HO_5 := n0_; have HO1013 := n1_; have HB := n2_; clear n0_ n1_ n2_; (try clear hb); (try clear hb2); (try clear hk); (try clear hi); (try clear ho0); obtain ⟨Ao33, co33, eo33⟩ := Kd.R_slice HO_5.out; subst eo33; obtain ⟨Ao34, co34, eo34⟩ := Kd.R_slice HO1013.out; subst eo34) | ((with_reducible refine gate_callee (f := 20) rfl ?_); refine goesL_ (some 46) rfl rfl Try.func20 (by kernel_rfl) rfl #[.slice Ao33 t1004.length co33, .slice Ao34 t1010.length co34] rfl (by (try simp only [List.map_toArray, List.map_cons, List.map_nil]); first | done | rfl | (simp only [List.length_drop, List.length_take]; rfl)) ?_; (with_reducible refine (slices_Equal_int_int.calls kj4 _ _ t1004 _ _ t1010 false _ ?side1 ?side2 ?side3 ?side4 A21.out).mono ?_); (case side1 => repeat (first | exact (Kd.R_reads' HO_5.out).2.2 | (with_reducible refine Kd.C_alloc ?_ _) | (with_reducible refine Kd.C_drewN ?_ _) | (with_reducible refine Kd.C_drew ?_))); (case side2 => exact (Kd.R_reads' HO_5.out).2.1); (case side3 => repeat (first | exact (Kd.R_reads' HO1013.out).2.2 | (with_reducible refine Kd.C_alloc ?_ _) | (with_reducible refine Kd.C_drewN ?_ _) | (with_reducible refine Kd.C_drew ?_))); (case side4 => exact (Kd.R_reads' HO1013.out).2.1); rintro e w' ⟨rfl, ⟨nd, rfl⟩⟩; refine ⟨_, rfl, ?_⟩))
          go_ret
          exact ⟨by first | rfl | (simp [errW_none, errW_some] <;> rfl) | (simp [*, errW_none, errW_some] <;> rfl), by repeat (first | (with_reducible first | exact HB.out | apply below_alloc | apply pw_below_drewN | apply below_drew1) | exact HB.out)⟩

/-- THE ONE PURE STATEMENT of sackbutlaw05_RowsFills: yours. -/
def sackbutlaw05_RowsFills.Pure : Prop := ∀ (l0 : List Int) (a1 : Int), l0.length ≤ maxLen → l0.length * 8 ≤ 140737488351232 → (∀ x ∈ l0, (Lit.int .i64 x).wf = true) → (Lit.int .i64 a1).wf = true → ∃ k, sackbutlaw05_RowsFills.f k l0 a1 = some true
theorem sackbutlaw05_RowsFills.walk (P : sackbutlaw05_RowsFills.Pure) (a0 : Option Addr) (len0 cap0 : Nat) (z0 : List Int) (a1 : Int) (w : World) (w0 : (a0 = none ∧ len0 = 0 ∧ cap0 = 0 ∧ z0 = []) ∨ ∃ x, a0 = some x ∧ len0 ≤ cap0 ∧ cap0 ≤ maxLen ∧ z0.length = cap0 ∧ (∀ i, i < z0.length → w.cell? (x.add i) = some (.int .i64 (z0.getD i 0))) ∧ ∀ n ∈ z0, (Lit.int .i64 n).wf = true) (y0 : len0 * 8 ≤ 140737488351232) (w1 : (Lit.int .i64 a1).wf = true) :
    Calls Try.prog 9 #[.slice a0 len0 cap0, .int .i64 a1] w fun e w' => e = .returned (.bool true) ∧ Below w.heap.size w w' := by
  obtain ⟨l0, rfl, hr0, hm0, hw0, hc0⟩ := ReadsInt.ofRowC w0
  obtain ⟨k, h⟩ := P l0 a1 hm0 y0 hw0 w1
  refine (sackbutlaw05_RowsFills.calls k _ _ l0 a1 true w (Kd.C_of_reads (d := (0 : Int)) (h1 := fun _ => rfl) hr0) hc0 h).mono ?_
  rintro e w' ⟨rfl, hd⟩
  exact ⟨rfl, hd⟩

end Go.Proofs.Ytpfjnpbcnlbhaaa.P
namespace Go.Proofs.Ytpfjnpbcnlbhaaa.P
open Go.RowKit Go.Proofs.YtpfjnpbcnlbhaaaW.PrintWords Go.Proofs.YtpfjnpbcnlbhaaaW.PrintLast Go.Proofs.YtpfjnpbcnlbhaaaW.PrintMore
attribute [local go_sem] max2_int min2_int max_two min_two max_three min_three max_four min_four   -- for this text's walks alone
set_option linter.unusedVariables false
set_option linter.unusedSimpArgs false

/-! what the search finds -/
theorem chk_iff {n : Nat} : ∀ (l : List Int) (t : Nat), (chkT n l t).isSome = true ↔ ((∀ x ∈ l, (0 ≤ x ∧ x < n) ∧ t.testBit x.toNat = false) ∧ l.Nodup)
  | [], t => by simp [chkT]
  | x :: l, t => by
    rw [chkT]
    by_cases hx : x < 0 ∨ (n : Int) ≤ x
    · rw [if_pos hx]
      constructor
      · intro h; cases h
      · rintro ⟨h, _⟩; have := (h x (by simp)).1; omega
    · rw [if_neg hx]
      cases hb : t.testBit x.toNat with
      | true =>
        rw [if_pos rfl]
        constructor
        · intro h; cases h
        · rintro ⟨h, _⟩; have := (h x (by simp)).2; rw [hb] at this; cases this
      | false =>
        rw [if_neg (by decide), chk_iff l, List.nodup_cons]
        have bit : ∀ y : Int, (t ||| 2 ^ x.toNat).testBit y.toNat = (t.testBit y.toNat || decide (x.toNat = y.toNat)) := fun y => by rw [Nat.testBit_or, Nat.testBit_two_pow]
        constructor
        · rintro ⟨h1, h2⟩
          refine ⟨fun y hy => ?_, fun hm => ?_, h2⟩
          · rcases List.mem_cons.1 hy with rfl | hy
            · exact ⟨by omega, hb⟩
            · have := h1 y hy
              rw [bit, Bool.or_eq_false_iff] at this
              exact ⟨this.1, this.2.1⟩
          · have := (h1 x hm).2
            rw [bit] at this
            simp at this
        · rintro ⟨h1, h2, h3⟩
          refine ⟨fun y hy => ?_, h3⟩
          have h4 := h1 y (by simp [hy])
          refine ⟨h4.1, ?_⟩
          rw [bit, h4.2, Bool.false_or]
          refine decide_eq_false (fun e => h2 ?_)
          have : x = y := by omega
          rw [this]; exact hy
theorem chk_part {n : Nat} {l : List Int} : (chkT n l 0).isSome = true ↔ PartOf n l := by
  rw [chk_iff]
  unfold PartOf
  constructor
  · rintro ⟨h, h2⟩; exact ⟨fun x hx => (h x hx).1, h2⟩
  · rintro ⟨h, h2⟩; exact ⟨fun x hx => ⟨h x hx, by simp⟩, h2⟩
theorem steps_snoc (n y x : Int) : ∀ l : List Int, stepsOf n ((l ++ [y]) ++ [x]) = stepsOf n (l ++ [y]) ++ [(x - y) % n]
  | [] => rfl
  | [a] => rfl
  | a :: b :: l => by
    have := steps_snoc n y x (b :: l)
    simp only [List.cons_append, stepsOf] at this ⊢
    rw [this]
theorem modN_cast {n x y : Nat} (hn : 1 ≤ n) (hy : y < n) : (((x + n - y) % n : Nat) : Int) = ((x : Int) - (y : Int)) % (n : Int) := by
  rw [Int.natCast_emod, show ((x + n - y : Nat) : Int) = ((x : Int) - (y : Int)) + (n : Int) by omega, Int.add_emod_right]
structure Come (n : Nat) (cur : List Nat) (t s : Nat) : Prop where
  t : ∀ y, t.testBit y = decide (y ∈ cur)
  s : ∀ y : Nat, s.testBit y = decide ((y : Int) ∈ stepsOf n (nums cur))
  d : cur.Nodup
  e : (stepsOf n (nums cur)).Nodup
theorem come_nil (n : Nat) : Come n [] 0 0 := ⟨fun y => by simp, fun y => by simp [nums, stepsOf], List.nodup_nil, by simp [nums, stepsOf]⟩
theorem come_add {n : Nat} {cur : List Nat} {t s x t' s' : Nat} (hn : 1 ≤ n) (hcur : ∀ y ∈ cur, y < n) (h : Come n cur t s) (ha : addS n cur t s x = some (t', s')) : Come n (cur ++ [x]) t' s' := by
  unfold addS at ha
  cases hb : t.testBit x with
  | true => rw [hb, if_pos rfl] at ha; cases ha
  | false =>
    rw [hb, if_neg (by decide)] at ha
    have hx : x ∉ cur := by have := h.t x; rw [hb] at this; exact of_decide_eq_false this.symm
    have hd : (cur ++ [x]).Nodup := by
      rw [List.nodup_append]
      exact ⟨h.d, by simp, fun a hm b hb e => hx (by rw [List.mem_singleton] at hb; rw [← hb, ← e]; exact hm)⟩
    have ht : ∀ y, (t ||| 2 ^ x).testBit y = decide (y ∈ cur ++ [x]) := fun y => by
      rw [Nat.testBit_or, Nat.testBit_two_pow, h.t, ← Bool.decide_or, decide_eq_decide, List.mem_append, List.mem_singleton]
      exact ⟨fun h => h.elim .inl (fun h => .inr h.symm), fun h => h.elim .inl (fun h => .inr h.symm)⟩
    cases hl : cur.getLast? with
    | none =>
      have : cur = [] := List.getLast?_eq_none_iff.1 hl
      subst this
      simp only [List.getLast?_nil] at ha
      cases ha
      refine ⟨ht, fun y => ?_, hd, by simp [nums, stepsOf]⟩
      rw [h.s]; simp [nums, stepsOf]
    | some y =>
      obtain ⟨pre, hpre⟩ := List.getLast?_eq_some_iff.1 hl
      rw [hl] at ha
      simp only at ha
      have hy : y < n := hcur y (by rw [hpre]; simp)
      have hst : stepsOf n (nums (cur ++ [x])) = stepsOf n (nums cur) ++ [(((x + n - y) % n : Nat) : Int)] := by
        rw [nums_snoc, hpre, nums_snoc, steps_snoc, modN_cast hn hy]
      cases hs : s.testBit ((x + n - y) % n) with
      | true => rw [hs, if_pos rfl] at ha; cases ha
      | false =>
        rw [hs, if_neg (by decide)] at ha
        cases ha
        have hns : ((((x + n - y) % n : Nat) : Int)) ∉ stepsOf n (nums cur) := by have := h.s ((x + n - y) % n); rw [hs] at this; exact of_decide_eq_false this.symm
        refine ⟨ht, fun z => ?_, hd, ?_⟩
        · rw [hst, Nat.testBit_or, Nat.testBit_two_pow, h.s, ← Bool.decide_or, decide_eq_decide, List.mem_append, List.mem_singleton]
          exact ⟨fun h => h.elim .inl (fun h => .inr (by rw [h])), fun h => h.elim .inl (fun h => .inr (by omega))⟩
        · rw [hst, List.nodup_append]
          exact ⟨h.e, by simp, fun a hm b hb e => hns (by rw [List.mem_singleton] at hb; rw [← hb, ← e]; exact hm)⟩
theorem addAll_app (n : Nat) : ∀ (x y cur : List Nat) (t s : Nat), addAll n cur t s (x ++ y) = (addAll n cur t s x).bind fun p => addAll n (cur ++ x) p.1 p.2 y
  | [], y, cur, t, s => by simp [addAll]
  | a :: x, y, cur, t, s => by
    rw [List.cons_append, addAll, addAll]
    cases addS n cur t s a with
    | none => rfl
    | some p => simp only []; rw [addAll_app n x y]; simp
theorem come_all {n : Nat} (hn : 1 ≤ n) : ∀ (x cur : List Nat) (t s t' s' : Nat), (∀ y ∈ cur ++ x, y < n) → Come n cur t s → addAll n cur t s x = some (t', s') → Come n (cur ++ x) t' s'
  | [], cur, t, s, t', s', _, h, ha => by rw [addAll] at ha; cases ha; simpa using h
  | a :: x, cur, t, s, t', s', hr, h, ha => by
    rw [addAll] at ha
    cases ho : addS n cur t s a with
    | none => rw [ho] at ha; cases ha
    | some p =>
      rw [ho] at ha
      have := come_all hn x (cur ++ [a]) p.1 p.2 t' s' (by simpa using hr) (come_add hn (fun y hy => hr y (by simp [hy])) h ho) ha
      simpa using this
theorem srch_good {n : Nat} : ∀ (r : Nat) (cur : List Nat) (t s : Nat), addAll n [] 0 0 cur = some (t, s) → ∀ l ∈ srch n r cur t s, (addAll n [] 0 0 l).isSome = true ∧ ∃ rest, l = cur ++ rest ∧ ∀ y ∈ rest, y < n
  | 0, cur, t, s, h, l, hl => by
    rw [srch, List.mem_singleton] at hl
    subst hl
    exact ⟨by rw [h]; rfl, [], by simp, by simp⟩
  | r + 1, cur, t, s, h, l, hl => by
    rw [srch, List.mem_flatMap] at hl
    obtain ⟨x, hx, hl⟩ := hl
    rw [List.mem_range] at hx
    cases ho : addS n cur t s x with
    | none => rw [ho] at hl; cases hl
    | some p =>
      rw [ho] at hl
      have ha : addAll n [] 0 0 (cur ++ [x]) = some (p.1, p.2) := by rw [addAll_app, h]; simp [addAll, ho]
      obtain ⟨h1, rest, h2, h3⟩ := srch_good r (cur ++ [x]) p.1 p.2 ha l hl
      refine ⟨h1, x :: rest, by rw [h2]; simp, fun y hy => ?_⟩
      rcases List.mem_cons.1 hy with rfl | hy
      · exact hx
      · exact h3 y hy
theorem srch_head {n r : Nat} {cur l : List Nat} {t s : Nat} (h : (srch n (r + 1) cur t s).head? = some l) : ∃ x p, addS n cur t s x = some p ∧ (srch n r (cur ++ [x]) p.1 p.2).head? = some l := by
  rw [srch, List.head?_flatMap] at h
  obtain ⟨x, _, hx⟩ := List.exists_of_findSome?_eq_some h
  cases ho : addS n cur t s x with
  | none => rw [ho] at hx; cases hx
  | some p => rw [ho] at hx; exact ⟨x, p, ho, hx⟩
/-- a row that was found -/
theorem fill_row {n : Nat} {b l : List Nat} (hn : 2 ≤ n) (hn2 : n ≤ 10) (hb : ∀ y ∈ b, y < n) (hbl : b.length ≤ n) (h : fillO n b = some l) : IsRow (nums l) ∧ l.length = n ∧ (stepsOf n (nums l)).Nodup ∧ l.take b.length = b ∧ (b.length < n → fillO n (l.take (b.length + 1)) = some l) ∧ (∀ y ∈ l, y < n) := by
  unfold fillO at h
  cases ha : addAll n [] 0 0 b with
  | none => rw [ha] at h; cases h
  | some p =>
    rw [ha] at h
    simp only at h
    obtain ⟨h1, rest, h2, h3⟩ := srch_good (n - b.length) b p.1 p.2 ha l (List.mem_of_head? h)
    have hlen := srch_len (n - b.length) b p.1 p.2 l (List.mem_of_head? h)
    have hln : l.length = n := by omega
    have hlr : ∀ y ∈ l, y < n := fun y hy => by
      rw [h2] at hy
      rcases List.mem_append.1 hy with h | h
      · exact hb y h
      · exact h3 y h
    obtain ⟨⟨t', s'⟩, hg⟩ := Option.isSome_iff_exists.1 h1
    have hc := come_all (by omega) l [] 0 0 t' s' (by simpa using hlr) (come_nil n) hg
    rw [List.nil_append] at hc
    refine ⟨⟨by rw [nums_length]; omega, by rw [nums_length]; omega, fun x hx => ?_, ?_⟩, hln, hc.e, by rw [h2]; simp, fun hlt => ?_, hlr⟩
    · unfold nums at hx
      obtain ⟨y, hy, rfl⟩ := List.mem_map.1 hx
      have := hlr y hy
      rw [nums_length]
      show (0 : Int) ≤ (y : Int) ∧ (y : Int) < _
      omega
    · unfold nums
      exact List.Pairwise.map _ (fun a b hab => fun e => hab (Int.ofNat.inj e)) hc.d
    · obtain ⟨r, hr⟩ : ∃ r, n - b.length = r + 1 := ⟨n - b.length - 1, by omega⟩
      rw [hr] at h
      obtain ⟨x, p2, ho, hx⟩ := srch_head h
      have hax : addAll n [] 0 0 (b ++ [x]) = some (p2.1, p2.2) := by rw [addAll_app, ha]; simp [addAll, ho]
      obtain ⟨_, rest2, e2, _⟩ := srch_good r (b ++ [x]) p2.1 p2.2 hax l (List.mem_of_head? hx)
      have ht : l.take (b.length + 1) = b ++ [x] := by rw [e2, List.take_left' (by simp)]
      rw [ht]
      unfold fillO
      rw [hax]
      simp only
      rw [List.length_append, List.length_singleton, show n - (b.length + 1) = r by omega]
      exact hx

end Go.Proofs.Ytpfjnpbcnlbhaaa.P
namespace Go.Proofs.Ytpfjnpbcnlbhaaa.P
open Go.RowKit Go.Proofs.YtpfjnpbcnlbhaaaW.PrintWords Go.Proofs.YtpfjnpbcnlbhaaaW.PrintLast Go.Proofs.YtpfjnpbcnlbhaaaW.PrintMore
attribute [local go_sem] max2_int min2_int max_two min_two max_three min_three max_four min_four   -- for this text's walks alone
set_option linter.unusedVariables false
set_option linter.unusedSimpArgs false

theorem len_sub5 : ∀ (l l' : List Nat), l.Nodup → (∀ c, c ∈ l → c ∈ l') → l.length ≤ l'.length
  | [], _, _, _ => Nat.zero_le _
  | c :: l, l', hd, hs => by
    have h1 := hs c (by simp)
    have hd' := List.nodup_cons.1 hd
    have := len_sub5 l (l'.erase c) hd'.2 (fun x hx => by
      have hx' := hs x (by simp [hx])
      have hne : x ≠ c := fun e => hd'.1 (e ▸ hx)
      exact (List.mem_erase_of_ne hne).2 hx')
    rw [List.length_erase_of_mem h1] at this
    have hp : 0 < l'.length := List.length_pos_of_mem h1
    simp only [List.length_cons]; omega
theorem nums_nodup {l : List Nat} : (nums l).Nodup ↔ l.Nodup := by
  constructor
  · intro h
    exact List.Pairwise.imp (fun h e => h (by rw [e])) (List.pairwise_map.1 h)
  · intro h
    exact List.Pairwise.map _ (fun a b hab => fun e => hab (Int.ofNat.inj e)) h
theorem part_len {n : Nat} {l : List Nat} (h : PartOf n (nums l)) : l.length ≤ n := by
  have h1 := len_sub5 l (List.range n) (nums_nodup.1 h.2) (fun c hc => List.mem_range.2 (by
    have := h.1 (c : Int) (List.mem_map.2 ⟨c, hc, rfl⟩)
    omega))
  rwa [List.length_range] at h1
/-- a tone that is new, with a new step, is taken -/
theorem add_take {n : Nat} {cur : List Nat} {t s x : Nat} (hn : 1 ≤ n) (hcur : ∀ y ∈ cur, y < n) (h : Come n cur t s) : (addS n cur t s x).isSome = true ↔ x ∉ cur ∧ (stepsOf n (nums (cur ++ [x]))).Nodup := by
  have ht := h.t x
  unfold addS
  by_cases hx : x ∈ cur
  · rw [decide_eq_true hx] at ht
    rw [ht, if_pos rfl]
    exact ⟨fun h => (by cases h), fun h => absurd hx h.1⟩
  · rw [decide_eq_false hx] at ht
    rw [ht, if_neg (by decide)]
    cases hl : cur.getLast? with
    | none =>
      have : cur = [] := List.getLast?_eq_none_iff.1 hl
      subst this
      simp [nums, stepsOf]
    | some y =>
      obtain ⟨pre, hpre⟩ := List.getLast?_eq_some_iff.1 hl
      have hy : y < n := hcur y (by rw [hpre]; simp)
      have hst : stepsOf n (nums (cur ++ [x])) = stepsOf n (nums cur) ++ [(((x + n - y) % n : Nat) : Int)] := by
        rw [nums_snoc, hpre, nums_snoc, steps_snoc, modN_cast hn hy]
      have hs := h.s ((x + n - y) % n)
      rw [hst, List.nodup_append]
      simp only
      by_cases hm : (((x + n - y) % n : Nat) : Int) ∈ stepsOf n (nums cur)
      · rw [decide_eq_true hm] at hs
        rw [hs, if_pos rfl]
        exact ⟨fun h => (by cases h), fun h => absurd rfl (h.2.2.2 _ hm _ (by simp))⟩
      · rw [decide_eq_false hm] at hs
        rw [hs, if_neg (by decide)]
        exact ⟨fun _ => ⟨hx, h.e, by simp, fun a ha b hb e => hm (by rw [List.mem_singleton] at hb; rw [← hb, ← e]; exact ha)⟩, fun _ => rfl⟩
/-- both searches find the same -/
theorem whole_srch {n : Nat} (hn : 1 ≤ n) : ∀ (r : Nat) (cur : List Nat) (t s : Nat), (∀ y ∈ cur, y < n) → Come n cur t s → wholeF n r cur = (srch n r cur t s).head?
  | 0, cur, t, s, _, h => by rw [wholeF_zero, if_pos h.e]; rfl
  | r + 1, cur, t, s, hcur, h => by
    rw [wholeF_eq, if_pos h.e, srch, List.head?_flatMap]
    have key : ∀ x ∈ List.range n, (if x ∈ cur then none else wholeF n r (cur ++ [x])) = (match addS n cur t s x with
        | none => ([] : List (List Nat))
        | some p => srch n r (cur ++ [x]) p.1 p.2).head? := by
      intro x hx
      rw [List.mem_range] at hx
      have ha := add_take (x := x) hn hcur h
      cases ho : addS n cur t s x with
      | none =>
        rw [ho] at ha
        by_cases hm : x ∈ cur
        · rw [if_pos hm]; rfl
        · rw [if_neg hm]
          have hno : ¬ (stepsOf n (nums (cur ++ [x]))).Nodup := fun h2 => by have := ha.2 ⟨hm, h2⟩; cases this
          cases r with
          | zero => rw [wholeF_zero, if_neg hno]; rfl
          | succ r => rw [wholeF_eq, if_neg hno]; rfl
      | some p =>
        rw [ho] at ha
        have h2 := ha.1 rfl
        rw [if_neg h2.1]
        have hc2 := come_add hn hcur h (show addS n cur t s x = some (p.1, p.2) from ho)
        exact whole_srch hn r (cur ++ [x]) p.1 p.2 (fun y hy => by
          rcases List.mem_append.1 hy with h | h
          · exact hcur y h
          · rw [List.mem_singleton] at h; omega) hc2
    clear h hcur
    generalize List.range n = L at key
    induction L with
    | nil => rfl
    | cons a L ih =>
      rw [List.findSome?_cons, List.findSome?_cons, key a (by simp), ih (fun x hx => key x (by simp [hx]))]
      rfl
theorem steps_sub (n : Int) : ∀ (a b : List Int) (z : Int), z ∈ stepsOf n a → z ∈ stepsOf n (a ++ b)
  | [], _, _, h => by simp [stepsOf] at h
  | [x], _, _, h => by simp [stepsOf] at h
  | x :: y :: a, b, z, h => by
    simp only [List.cons_append, stepsOf, List.mem_cons] at h ⊢
    rcases h with h | h
    · exact .inl h
    · exact .inr (steps_sub n (y :: a) b z h)
theorem steps_pre (n : Int) : ∀ (a b : List Int), (stepsOf n (a ++ b)).Nodup → (stepsOf n a).Nodup
  | [], _, _ => by simp [stepsOf]
  | [x], _, _ => by simp [stepsOf]
  | x :: y :: a, b, h => by
    simp only [List.cons_append, stepsOf] at h ⊢
    rw [List.nodup_cons] at h ⊢
    have ih := steps_pre n (y :: a) b h.2
    refine ⟨fun hm => h.1 ?_, ih⟩
    exact steps_sub n (y :: a) b _ hm
theorem addAll_iff {n : Nat} (hn : 1 ≤ n) : ∀ (x cur : List Nat) (t s : Nat), (∀ y ∈ cur ++ x, y < n) → (cur ++ x).Nodup → Come n cur t s → ((addAll n cur t s x).isSome = true ↔ (stepsOf n (nums (cur ++ x))).Nodup)
  | [], cur, t, s, _, _, h => by rw [addAll, List.append_nil]; exact ⟨fun _ => h.e, fun _ => rfl⟩
  | a :: x, cur, t, s, hr, hd, h => by
    have ha := add_take (x := a) hn (fun y hy => hr y (by simp [hy])) h
    have hna : a ∉ cur := fun hm => by
      rw [List.nodup_append] at hd
      exact hd.2.2 a hm a (by simp) rfl
    rw [addAll]
    cases ho : addS n cur t s a with
    | none =>
      rw [ho] at ha
      constructor
      · intro h; cases h
      · intro h2
        have h3 : (stepsOf n (nums (cur ++ [a]))).Nodup := by
          have e : cur ++ a :: x = (cur ++ [a]) ++ x := by simp
          rw [e] at h2
          exact steps_pre n (nums (cur ++ [a])) (nums x) (by unfold nums at h2 ⊢; rw [List.map_append] at h2; exact h2)
        have := ha.2 ⟨hna, h3⟩
        cases this
    | some p =>
      have hc2 := come_add hn (fun y hy => hr y (by simp [hy])) h (show addS n cur t s a = some (p.1, p.2) from ho)
      have := addAll_iff hn x (cur ++ [a]) p.1 p.2 (by simpa using hr) (by simpa using hd) hc2
      simpa using this
theorem RowsFills : sackbutlaw05_RowsFills.Pure := by
  intro l0 a1 hl1 hl2 _ _
  have hM : maxLen = 9223372036854775807 := rfl
  refine Ev.rounds (g := fun k => sackbutlaw05_RowsFills.f k l0 a1) ?_
  unfold sackbutlaw05_RowsFills.f
  refine Ev.bind_some (list_f l0) ?_
  have no : ∀ x, rows_Fill.f (l0.take 13) a1 = some x → (2 ≤ a1 ∧ a1 ≤ 10 → ¬ PartOf a1.toNat l0) → x = ([], 2) := by
    intro x hx hp
    unfold rows_Fill.f at hx
    rw [if_neg (fun h => by
      have ht13 : l0.take 13 = l0 := by
        have h1 := h.2.2.1
        rw [List.length_take] at h1
        exact List.take_of_length_le (by omega)
      rw [ht13] at h
      exact hp ⟨h.1, h.2.1⟩ (chk_part.1 h.2.2.2))] at hx
    exact (Option.some.inj hx).symm
  have bad : ∀ (a : List Int) (e : Int), (a, e) = (([] : List Int), (2 : Int)) → Ev (fun k => sackbutlaw05_RowsFills.j0 k l0 a1 a e true) true := by
    rintro a e ⟨⟩
    refine Ev.succ ?_
    simp only [sackbutlaw05_RowsFills.j0, if_true, List.length_nil]
    exact Ev.bind awake_ev (Ev.some _)
  obtain ⟨⟨fa, fe⟩, hf⟩ : ∃ x, rows_Fill.f (l0.take 13) a1 = some x := by unfold rows_Fill.f; split <;> exact ⟨_, rfl⟩
  refine Ev.bind_some hf ?_
  refine Ev.ite (fun h1 => bad fa fe (no _ hf (fun h => by omega))) (fun h1 => ?_)
  refine Ev.ite (fun h2 => bad fa fe (no _ hf (fun h => by omega))) (fun h2 => ?_)
  obtain ⟨n, rfl⟩ : ∃ n : Nat, a1 = (n : Int) := ⟨a1.toNat, by omega⟩
  refine Ev.bind (Part_ev l0 n (by omega) (by omega)) ?_
  by_cases hp : PartOf n l0
  · rw [decide_eq_true hp]
    obtain ⟨b, hb⟩ : ∃ b, toNats l0 = b := ⟨_, rfl⟩
    have hnb : nums b = l0 := by rw [← hb]; exact nums_toNats l0 (fun x hx => (hp.1 x hx).1)
    have hbl : b.length = l0.length := by rw [← hnb, nums_length]
    have hlen : l0.length ≤ n := by rw [← hbl]; exact part_len (by rw [hnb]; exact hp)
    have hbr : ∀ y ∈ b, y < n := fun y hy => by
      have := hp.1 (y : Int) (by rw [← hnb]; exact List.mem_map.2 ⟨y, hy, rfl⟩)
      omega
    have ht13 : l0.take 13 = l0 := List.take_of_length_le (by omega)
    have hsame : fillO n b = wholeF n (n - l0.length) b := by
      unfold fillO
      have hi := addAll_iff (show 1 ≤ n by omega) b [] 0 0 (by simpa using hbr) (by rw [List.nil_append]; exact nums_nodup.1 (by rw [hnb]; exact hp.2)) (come_nil n)
      rw [List.nil_append] at hi
      cases ha : addAll n [] 0 0 b with
      | none =>
        rw [ha] at hi
        have hno : ¬ (stepsOf n (nums b)).Nodup := fun h => by have := hi.2 h; cases this
        cases hr : n - l0.length with
        | zero => rw [wholeF_zero, if_neg hno]
        | succ r => rw [wholeF_eq, if_neg hno]
      | some p =>
        have hc := come_all (show 1 ≤ n by omega) b [] 0 0 p.1 p.2 (by simpa using hbr) (come_nil n) ha
        rw [List.nil_append] at hc
        simp only
        rw [whole_srch (by omega) (n - l0.length) b p.1 p.2 hbr hc, hbl]
    rw [ht13] at hf
    unfold rows_Fill.f at hf
    rw [Int.toNat_natCast, if_pos ⟨by omega, by omega, by omega, chk_part.2 hp⟩, hb, hsame] at hf
    have hfe := Option.some.inj hf
    have hR : sackbutref05_Fill.f l0 (n : Int) = some (fa, fe) := by
      unfold sackbutref05_Fill.f
      rw [Int.toNat_natCast, if_pos ⟨by omega, by omega, by omega, hp⟩, hb, hfe]
    have hfl : fa.length < 9223372036854775807 := by
      have h5 := congrArg Prod.fst hfe
      simp only at h5
      rw [← h5, ← hsame]
      unfold fillO
      cases ha : addAll n [] 0 0 b with
      | none => show (0 : Nat) < _; omega
      | some p =>
        have := optL_len (n := n) (r := n - b.length) (cur := b) (t := p.1) (s := p.2) (by omega)
        show (optL (srch n (n - b.length) b p.1 p.2).head?).length < _
        omega
    refine Ev.succ ?_
    simp only [sackbutlaw05_RowsFills.j0, Bool.not_true, Bool.false_eq_true, if_false]
    refine Ev.bind_some hR ?_
    refine Ev.bind (Equal_ev fa fa hfl) ?_
    rw [decide_eq_true rfl]
    simp only [if_true]
    exact Ev.bind awake_ev (Ev.some _)
  · rw [decide_eq_false hp]
    exact bad fa fe (no _ hf (fun _ => hp))

end Go.Proofs.Ytpfjnpbcnlbhaaa.P
namespace Go.Proofs.Ytpfjnpbcnlbhaaa.Pure
theorem RowsFills : Go.Proofs.Ytpfjnpbcnlbhaaa.P.sackbutlaw05_RowsFills.Pure := Go.Proofs.Ytpfjnpbcnlbhaaa.P.RowsFills
end Go.Proofs.Ytpfjnpbcnlbhaaa.Pure
namespace Go.Proofs.Ytpfjnpbcnlbhaaa.rowsFills
open Go.ChangeShapes Go.WideShapes Go.ChangeAt Go.RowKit
open Go.ChangeMaps (open_string shut_string)
set_option linter.unusedVariables false
theorem own : ownKnob Try.prog.godebug = none := by kernel_rfl
theorem laidOut : laidOutB Try.prog = true := by kernel_rfl
def IsRow (k : IntKind) (w : World) (a : Option Addr) (len cap : Nat) (zs : List Int) : Prop :=
  (a = none ∧ len = 0 ∧ cap = 0 ∧ zs = []) ∨
  ∃ x, a = some x ∧ len ≤ cap ∧ cap ≤ maxLen ∧ zs.length = cap ∧ (∀ i, i < zs.length → w.cell? (x.add i) = some (.int k (zs.getD i 0))) ∧ ∀ n ∈ zs, (Lit.int k n).wf = true
set_option maxRecDepth 100000 in
theorem lifted (os : Os) (started : os.Started) (H : Type) (enc : TypeId × Value → H) :
    ReturnsInHanded {} Try.checked os 9 .any (Rows.rowsFillsSpec.pre6 enc Try.prog Try.f9 Rows.rowsFillsRow.domain false) (Rows.rowsFillsSpec.post enc Try.prog Try.f9 false true false false) := by
  refine returnsInHanded_of_change_sized (C := Try.checked) own started (by kernel_rfl) Try.func9
    (ChangeSpec.witness6 (enc := enc) (C := Try.checked) false ⟨#[], #[.slice none 0 0, .int .i64 0], []⟩ 8 (by kernel_rfl) (by kernel_rfl) (by kernel_rfl) (by kernel_rfl)) ?_
  intro W base args ds gs before hval0 hW hcnd hsz0 _
  have hsz : (DataW.weightsEach Try.prog (Try.f9.params.toList ++ Rows.rowsFillsSpec.plain.varTypes Try.prog) (ds ++ gs)).all (· ≤ reachBytes) = true := hsz0
  have hval : ∀ (j : Nat) t v, Try.f9.params[j]? = some t → args[j]? = some v → Value.okWide Try.prog W .any base t v := hval0
  have hW' := hW
  obtain ⟨p, q, hA0, hV, rfl, hfz, hnd⟩ := hW
  have hA : DataW.TrodAll enc Try.prog W 0 (fun _ => true) true Try.f9.params.toList args.toList ds p := hA0
  rw [Try.params9] at hA hval hsz
  obtain ⟨v0, vs0, d0, ds0, p0, q0, hargs, rfl, rfl, h0, r0⟩ := trodAll_cons hA
  obtain ⟨v1, vs1, d1, ds1, p1, q1, rfl, rfl, rfl, h1, r1⟩ := trodAll_cons r0
  obtain ⟨rfl, rfl, rfl⟩ := trodAll_nil r1
  obtain rfl : args = #[v0, v1] := by cases args; simp_all
  obtain ⟨rfl, rfl⟩ := trodVars_none hV
  obtain ⟨a0, len0, cap0, rfl⟩ := okWide_slice Try.underlying22 (hval 0 22 v0 rfl rfl)
  have k0 := h0
  have lt0 : ∀ x ∈ p0, x.block < W.heap.size := by obtain ⟨m, hm⟩ := k0; exact DataW.trod_lt m _ _ _ hm
  obtain ⟨z0, w0⟩ : ∃ zs, IsRow .i64 W a0 len0 cap0 zs := by
    obtain ⟨fuel, hf⟩ := h0
    rcases open_ints Try.underlying22 Try.underlying3 (by kernel_rfl) hf with ⟨hcs, _⟩ | ⟨x, l, c, zs, hcs, _, hl, hm, hz, _, hcell, hwz⟩
    · simp [Value.cells] at hcs
      obtain ⟨rfl, rfl, rfl⟩ := hcs
      exact ⟨[], .inl ⟨rfl, rfl, rfl, rfl⟩⟩
    · simp [Value.cells] at hcs
      obtain ⟨rfl, rfl, rfl⟩ := hcs
      exact ⟨zs, .inr ⟨_, rfl, hl, hm, by simpa using hz, hcell, hwz⟩⟩
  have y0 : len0 * 8 ≤ 140737488351232 := Go.Proofs.YtpfjnpbcnlbhaaaW.PrintWords.sized_ints hsz (j := 0) (t := 22) rfl rfl Try.underlying22 Try.underlying3 (by kernel_rfl) (by kernel_rfl) h0
  obtain ⟨a1, rfl, rfl, rfl, w1⟩ := open_int Try.underlying3 (hval 1 3 v1 rfl rfl) h1
  clear hA0 hval0 hsz0 hsz
  refine (P.sackbutlaw05_RowsFills.walk Pure.RowsFills a0 len0 cap0 z0 a1 W w0 y0 w1).mono fun e W' ⟨he, bel⟩ => ?_
  subst he
  exact ⟨_, rfl, _, _, _, [], _, [], hW', trodAll_mk1 (shut_bool Try.underlying4 _), (trodAll_cons_mk (Below.trod laidOut (by kernel_rfl) (of_decide_eq_true (by kernel_rfl)) k0 bel lt0) (trodAll_cons_mk (shut_int Try.underlying3 w1) trodAll_mk0)), rfl, bel.frame _, fun h => by cases h⟩
theorem over : Rows.rowsFillsRow.holds Try.pinned (OpenSpec.ofChange Rows.rowsFillsSpec) :=
  OpenClaim.holds_of_wide 9 Try.f9 rfl rfl rfl rfl rfl rfl rfl ⟨rfl, rfl, rfl, rfl, rfl⟩ rfl rfl rfl rfl rfl (by kernel_rfl) Try.func9 (by kernel_rfl)
    (of_decide_eq_true (by kernel_rfl)) (by unfold Func.isWrapper; first | (rw [if_pos (by decide +kernel)]; kernel_rfl) | (rw [if_neg (by decide +kernel)]; exact ⟨rfl, rfl⟩))
    (fun os started H enc _ => lifted os started H enc)
theorem proved : Rows.RowsFillsSaid := over
#print axioms proved
end Go.Proofs.Ytpfjnpbcnlbhaaa.rowsFills
namespace Go.Proofs.Ytpfjnpbcnlbhaaa
/-- The row, under a short name, for the claim. -/
theorem rowsFills_holds : Rows.RowsFillsSaid := rowsFills.proved
end Go.Proofs.Ytpfjnpbcnlbhaaa
