/- A part of a proof that a law's Go function returns true for every input, laid by this session's program mp.py (which drives the kit's print). Conditions: as each theorem states them. -/
import Derived.StillTailTactics
import Derived.Laws.EntriesVeiled
import Derived.Shelf.Abstract
import Derived.Shelf.SlicesG.CompactI
import Derived.Ground.SlgnProg
import Derived.Test.YtfpnojcbhbkfaaaDoorCTopNear1
import Derived.Test.YtfpnojcbhbkfaaaDoorCTopNear2
import Derived.Test.YtfpnojcbhbkfaaaDoorCTopNear3
import Derived.Test.YtfpnojcbhbkfaaaDoorCTopNear4
namespace Go.Proofs.YtfpnojcbhbkfaaaDoor.P
open Go.RowKit Go.Proofs.YtfpnojcbhbkfaaaDoorW.PrintWords Go.Proofs.YtfpnojcbhbkfaaaDoorW.PrintLast Go.Proofs.YtfpnojcbhbkfaaaDoorW.PrintMore
attribute [local go_sem] max2_int min2_int max_two min_two max_three min_three max_four min_four   -- for this text's walks alone
set_option linter.unusedVariables false
set_option linter.unusedSimpArgs false

/-! voices.Near: the nearest image -/
/-- an image: turned or not, moved by k -/
def imgV (n : Nat) (b : List Int) (q k : Nat) : List Int := b.map fun x => ((k : Int) + (if q = 0 then 1 else -1) * x) % (n : Int)
def imgsTo (n : Nat) (b : List Int) (q k : Nat) : List (List Int) := ((List.range q).flatMap fun p => (List.range n).map fun j => imgV n b p j) ++ (List.range k).map fun j => imgV n b q j
theorem imgsTo_next (n : Nat) (b : List Int) (q k : Nat) : imgsTo n b q (k + 1) = imgsTo n b q k ++ [imgV n b q k] := by
  unfold imgsTo; rw [List.range_succ, List.map_append]; simp
theorem imgsTo_turn (n : Nat) (b : List Int) (q : Nat) : imgsTo n b q n = imgsTo n b (q + 1) 0 := by
  unfold imgsTo; rw [List.range_succ]; simp
def risL (v : List Int) : List Int := v.mergeSort fun x y => decide (x ≤ y)
def nearF (n : Int) (a : List Int) (L : List (List Int)) : Option (List Int × Int) := L.foldl (fun st v => seeS st (risL v) (bestV n a v).2) none
theorem nearF_snoc (n : Int) (a : List Int) (L : List (List Int)) (v : List Int) : nearF n a (L ++ [v]) = seeS (nearF n a L) (risL v) (bestV n a v).2 := by unfold nearF; rw [List.foldl_append]; rfl
def nearV (n : Int) (a b : List Int) : Option (List Int × Int) := nearF n a (imgsTo n.toNat b 2 0)
theorem near_new (W : World) (t1 t2 : TypeId) (W3 : World) (h : (W.alloc (.cells #[.slice none 0 0, .int .i64 0] t1)).alloc (.cells #[.int .i64 1, .int .i64 (-1)] t2) = W3) :
    W3.heap[W.heap.size]? = some (.cells #[.slice none 0 0, .int .i64 0] t1) ∧ W3.heap[W.heap.size + 1]? = some (.cells #[.int .i64 1, .int .i64 (-1)] t2) ∧ Below W.heap.size W W3 ∧ W3.heap.size = W.heap.size + 2 := by
  subst h
  have h1 := World.alloc_heap_new W (.cells #[.slice none 0 0, .int .i64 0] t1)
  have h2 := World.alloc_heap_new (W.alloc (.cells #[.slice none 0 0, .int .i64 0] t1)) (.cells #[.int .i64 1, .int .i64 (-1)] t2)
  rw [World.size_alloc] at h2
  exact ⟨(Below.heap_alloc _ _ _ (by rw [World.size_alloc]; omega)).trans h1, h2, below_alloc (below_alloc (Below.refl _ _) _) _, by simp [World.size_alloc]⟩
theorem two_cells9 {W : World} {b : Nat} {u v : Value} {t : TypeId} (h : W.heap[b]? = some (.cells #[u, v] t)) : W.cell? ⟨b, 0, none⟩ = some u ∧ W.cell? ⟨b, 1, none⟩ = some v := by
  constructor <;> (unfold World.cell?; simp only [h]; simp)
theorem frozen_cells9 {W : World} {b i : Nat} {cs : Array Value} {t : TypeId} (h : W.heap[b]? = some (.cells cs t)) : W.frozen? ⟨b, i, none⟩ = false := by
  unfold World.frozen?; simp only [h]; simp
theorem see_move {S base : Nat} {st : Option (List Int × Int)} {W W' : World} (h : SeeJ S base st W) (hf : Fr (fun i => i < W.heap.size) W W') : SeeJ S base st W' := by
  obtain ⟨f0, f1, hst⟩ := h
  cases st with
  | none =>
    have hl : S < W.heap.size := World.block_lt_of_cell? W _ hst.1
    exact ⟨(hf.frozen hl 0).trans f0, (hf.frozen hl 1).trans f1, (hf.cell hl 0).trans hst.1, (hf.cell hl 1).trans hst.2⟩
  | some p =>
    obtain ⟨v, c⟩ := p
    obtain ⟨ad, cap, c0, c1, hR⟩ := hst
    have hl : S < W.heap.size := World.block_lt_of_cell? W _ c0
    exact ⟨(hf.frozen hl 0).trans f0, (hf.frozen hl 1).trans f1, ad, cap, (hf.cell hl 0).trans c0, (hf.cell hl 1).trans c1, Kd.R_mono (Kd.R_move (Kd.R_bound hR) (fun i hi => hf.block i hi.2.2.1)) (fun i hi => hi.1)⟩
theorem seeS_some (st : Option (List Int × Int)) (v : List Int) (c : Int) : ∃ p, seeS st v c = some p := by
  cases st with
  | none => exact ⟨_, rfl⟩
  | some p => obtain ⟨w, d⟩ := p; simp only [seeS]; split <;> exact ⟨_, rfl⟩
theorem nearF_some {n : Int} {a : List Int} : ∀ (L : List (List Int)) (st : Option (List Int × Int)), (L ≠ [] ∨ st ≠ none) → ∃ p, L.foldl (fun st v => seeS st (risL v) (bestV n a v).2) st = some p
  | [], st, h => by
    cases st with
    | none => simp at h
    | some p => exact ⟨p, rfl⟩
  | v :: L, st, _ => by
    rw [List.foldl_cons]
    obtain ⟨p, hp⟩ := seeS_some st (risL v) (bestV n a v).2
    exact nearF_some L _ (.inr (by rw [hp]; simp))
theorem imgs_ne {n : Nat} (h : 2 ≤ n) (b : List Int) : imgsTo n b 2 0 ≠ [] := by
  intro e
  have := congrArg List.length e
  unfold imgsTo at this
  simp [List.range_succ] at this
  omega
theorem risL_len (v : List Int) : (risL v).length = v.length := by unfold risL; exact List.length_mergeSort _
theorem imgV_len (n : Nat) (b : List Int) (q k : Nat) : (imgV n b q k).length = b.length := by unfold imgV; exact List.length_map _
theorem nearF_len {n : Int} {a : List Int} {m : Nat} : ∀ (L : List (List Int)) (st : Option (List Int × Int)), (∀ v ∈ L, v.length = m) → (∀ w d, st = some (w, d) → w.length = m) → ∀ w d, L.foldl (fun st v => seeS st (risL v) (bestV n a v).2) st = some (w, d) → w.length = m
  | [], st, _, hs, w, d, h => hs w d h
  | v :: L, st, hL, hs, w, d, h => by
    rw [List.foldl_cons] at h
    refine nearF_len L _ (fun v hv => hL v (by simp [hv])) (fun w d h => ?_) w d h
    have hv := hL v (by simp)
    cases st with
    | none => simp only [seeS, Option.some.injEq, Prod.mk.injEq] at h; rw [← h.1, risL_len]; exact hv
    | some p =>
      obtain ⟨w0, d0⟩ := p
      simp only [seeS] at h
      split at h
      · simp only [Option.some.injEq, Prod.mk.injEq] at h; rw [← h.1, risL_len]; exact hv
      · simp only [Option.some.injEq, Prod.mk.injEq] at h; rw [← h.1]; exact hs w0 d0 rfl
theorem imgsTo_len {n : Nat} {b : List Int} {q k : Nat} : ∀ v ∈ imgsTo n b q k, v.length = b.length := by
  intro v hv
  unfold imgsTo at hv
  rcases List.mem_append.1 hv with h | h
  · obtain ⟨p, _, h⟩ := List.mem_flatMap.1 h
    obtain ⟨j, _, rfl⟩ := List.mem_map.1 h
    exact imgV_len _ _ _ _
  · obtain ⟨j, _, rfl⟩ := List.mem_map.1 h
    exact imgV_len _ _ _ _
theorem img_two {n : Nat} {a b : List Int} (h : TwoN n a b) (q k : Nat) : TwoN n a (imgV n b q k) := by
  refine ⟨h.1, ⟨h.2.1.1, h.2.1.2.1, by rw [imgV_len]; exact h.2.1.2.2.1, by rw [imgV_len]; exact h.2.1.2.2.2.1, fun x hx => ?_⟩, by rw [imgV_len]; exact h.2.2⟩
  unfold imgV at hx
  obtain ⟨y, _, rfl⟩ := List.mem_map.1 hx
  have := h.1.1
  exact ⟨Int.emod_nonneg _ (by omega), Int.emod_lt_of_pos _ (by omega)⟩
/-- while the tones are moved -/
def mixV (f : Int → Int) (b : List Int) (i : Nat) : List Int := (b.take i).map f ++ b.drop i
theorem mixV_len (f : Int → Int) (b : List Int) (i : Nat) : (mixV f b i).length = b.length := by unfold mixV; simp; omega
theorem mixV_at {f : Int → Int} {b : List Int} {i : Nat} (h : i < b.length) : rd (mixV f b i) (i : Int) = rd b (i : Int) := by
  rw [rd_nat, rd_nat]
  unfold mixV
  rw [List.getD_eq_getElem?_getD, List.getD_eq_getElem?_getD, List.getElem?_append_right (by simp; omega)]
  simp [Nat.min_eq_left (Nat.le_of_lt h)]
theorem mixV_set {f : Int → Int} {b : List Int} {i : Nat} (h : i < b.length) : (mixV f b i).set i (f (rd b (i : Int))) = mixV f b (i + 1) := by
  unfold mixV
  have hl : ((b.take i).map f).length = i := by simp; omega
  rw [List.set_append_right _ _ (by omega), hl, Nat.sub_self, List.drop_eq_getElem_cons h, List.set_cons_zero, List.take_succ_eq_append_getElem h, rd_get h, List.map_append, List.append_assoc]
  rfl
theorem mixV_all (f : Int → Int) (b : List Int) : mixV f b b.length = b.map f := by unfold mixV; simp
def voices_Near.f (a0 : Int) (l1 l2 : List Int) : Option (List Int × Int × Int) := if TwoN a0 l1 l2 then some (((nearV a0 l1 l2).getD ([], 0)).1, ((nearV a0 l1 l2).getD ([], 0)).2, 0) else some ([], 0, 2)
set_option maxHeartbeats 8000000 in
set_option maxRecDepth 100000 in
theorem voices_Near.calls (a0 : Int) (A1 : Option Addr) (c1 : Nat) (l1 : List Int) (A2 : Option Addr) (c2 : Nat) (l2 : List Int) (r1 : List Int) (r2 r3 : Int) (w : World) (hr1 : Kd.C (Kd.int .i64) w A1 l1.length l1) (hc1 : l1.length ≤ c1) (hr2 : Kd.C (Kd.int .i64) w A2 l2.length l2) (hc2 : l2.length ≤ c2) (h : voices_Near.f a0 l1 l2 = some (r1, r2, r3)) :
    Calls Tryd.prog 42 #[.int .i64 a0, .slice A1 l1.length c1, .slice A2 l2.length c2] w fun e w' => ∃ v0_ : Value, e = .returned (.tuple #[v0_, .int .i64 r2, .int .i64 r3]) ∧ Kd.R (Kd.int .i64) 3 w' w.heap.size (fun _ => True) v0_ r1 ∧ Below w.heap.size w w' := by
  have HB := Aside0.mk (Below.refl w.heap.size w)
  have HO1 := Aside0.mk (Kd.V_mono (ok' := (fun k_ => ((k_ < w.heap.size ∨ k_ < w.heap.size) ∨ w.heap.size ≤ k_))) (V_of_C (e := 3) (base := w.heap.size) hr1 hc1) (fun _ hk => .inl (.inl hk)))
  have HO2 := Aside0.mk (Kd.V_mono (ok' := (fun k_ => ((k_ < w.heap.size ∨ k_ < w.heap.size) ∨ w.heap.size ≤ k_))) (V_of_C (e := 3) (base := w.heap.size) hr2 hc2) (fun _ hk => .inl (.inl hk)))
  have HR1 := Aside0.mk hr1
  have HR2 := Aside0.mk hr2
  have HC1 := Aside0.mk hc1
  have HC2 := Aside0.mk hc2
  unfold voices_Near.f at h
  obtain ⟨k, hv⟩ := Ev.rounds (g := fun k => voices_circle_valid.f k a0 [l1, l2]) (valid2_ev a0 l1 l2)
  obtain ⟨y, hy⟩ : ∃ y : List (List Int), y = [l1, l2] := ⟨_, rfl⟩
  rw [← hy] at hv
  have HY := Aside0.mk hy
  clear hy hr1 hr2 hc1 hc2
  by_cases hc : TwoN a0 l1 l2
  · rw [decide_eq_true hc] at hv
    rw [if_pos hc] at h
    have HV := Aside0.mk hv
    have HT := Aside0.mk hc
    simp only [Option.some.injEq, Prod.mk.injEq] at h
    obtain ⟨hres1, hres2, rfl⟩ := h
    have HRES1 := Aside0.mk hres1
    have HRES2 := Aside0.mk hres2
    clear hv hc hres1 hres2
    obtain ⟨n, rfl⟩ : ∃ n : Nat, a0 = (n : Int) := ⟨a0.toNat, by have := HT.out.1.1; omega⟩
    have HN := Aside0.mk (show 2 ≤ n ∧ n ≤ 16 from ⟨by have := HT.out.1.1; omega, by have := HT.out.1.2.1; omega⟩)
    go_enter Tryd.func42, Tryd.ntmps42
    go_wp2_with (first | ((with_reducible refine gate_dst (N := 22) rfl ?_); (try (refine gate_guard (by rfl) ?_; dsimp only)); refine Kd.N_lit (Kd.slice 3 (Kd.int .i64)) _ 22 ?hg (N' := 22) ?hd (xs := ([l1, l2] : List (List Int))) (inner := [.slice A1 l1.length c1, .slice A2 l2.length c2]) (ok := (fun k_ => ((k_ < w.heap.size ∨ k_ < w.heap.size) ∨ w.heap.size ≤ k_))) (okp := (fun k_ => ((k_ < w.heap.size ∨ k_ < w.heap.size) ∨ w.heap.size ≤ k_))) ?hr ?hp (fun _ hk => hk) ((show ∀ k_, w.heap.size ≤ k_ → (fun k_ => ((k_ < w.heap.size ∨ k_ < w.heap.size) ∨ w.heap.size ≤ k_)) k_ from fun k_ hk => (.inr (Nat.le_trans (below_size (by repeat (first | (with_reducible first | exact HB.out | apply below_alloc | apply pw_below_drewN | apply below_drew1) | exact HB.out))) hk))) _ (Nat.le_refl _)) (Below.refl _ _) (Nat.le_refl _) (by simp) ?_; (case hd => rfl); (case hg => rfl); (case hr => first | (go_simp; done) | (go_simp; rfl)); (case hp => exact (Reps.one (show Kd.FK (Kd.slice 3 (Kd.int .i64)) _ _ l1 [.slice A1 l1.length c1] from (Kd.FK_slice_mk (Kd.V_reads' (Kd.V_mono (ok' := (fun k_ => ((k_ < w.heap.size ∨ k_ < w.heap.size) ∨ w.heap.size ≤ k_))) (HO1.out) (fun k_ hk => hk))).2.1 (Kd.V_F (Kd.V_mono (ok' := (fun k_ => ((k_ < w.heap.size ∨ k_ < w.heap.size) ∨ w.heap.size ≤ k_))) (HO1.out) (fun k_ hk => hk))))) (Reps.one (show Kd.FK (Kd.slice 3 (Kd.int .i64)) _ _ l2 [.slice A2 l2.length c2] from (Kd.FK_slice_mk (Kd.V_reads' (Kd.V_mono (ok' := (fun k_ => ((k_ < w.heap.size ∨ k_ < w.heap.size) ∨ w.heap.size ≤ k_))) (HO2.out) (fun k_ hk => hk))).2.1 (Kd.V_F (Kd.V_mono (ok' := (fun k_ => ((k_ < w.heap.size ∨ k_ < w.heap.size) ∨ w.heap.size ≤ k_))) (HO2.out) (fun k_ hk => hk))))) (Reps.none _ _)))); intro v1002 w10 ho11 hb hg_ hnew_; clear hg_ hnew_; rw [← HY.out] at ho11; have n2_ := Aside0.mk (Kd.N_lower ho11 (below_size (by repeat (first | (with_reducible first | exact HB.out | apply below_alloc | apply pw_below_drewN | apply below_drew1) | exact HB.out)))); have n3_ := Aside0.mk (below_step (by repeat (first | (with_reducible first | exact HB.out | apply below_alloc | apply pw_below_drewN | apply below_drew1) | exact HB.out)) hb); clear HO1 HO2; clear HB; have HOV := n2_; have HB := n3_; clear n2_ n3_; clear hb ho11; obtain ⟨Ao12, co12, eo12⟩ := Kd.N_slice HOV.out; subst eo12) | ((with_reducible refine gate_callee (f := 67) rfl ?_); refine goesL_ (some 23) rfl rfl Tryd.func67 (by kernel_rfl) rfl #[.int .i64 (_ : Int), .slice Ao12 y.length co12] rfl (by (try simp only [List.map_toArray, List.map_cons, List.map_nil]); first | done | rfl) ?_; (with_reducible refine (voices_circle_valid.calls k _ _ _ y true _ ?side1 ?side2 HV.out).mono ?_); (case side1 => repeat (first | exact (Kd.N_reads' HOV.out).2.2 | (with_reducible refine Kd.C_alloc ?_ _) | (with_reducible refine Kd.C_drewN ?_ _) | (with_reducible refine Kd.C_drew ?_))); (case side2 => exact (Kd.N_reads' HOV.out).2.1); rintro e w' ⟨rfl, ⟨nd, rfl⟩⟩; refine ⟨_, rfl, ?_⟩))
    obtain ⟨W9, hW9⟩ : ∃ W9, w10.drewN nd = W9 := ⟨_, rfl⟩
    have hb9 : Below w.heap.size w W9 := by rw [← hW9]; exact pw_below_drewN HB.out nd
    have hs9 : w10.heap.size = W9.heap.size := by rw [← hW9]; rfl
    rw [hW9, hs9]
    obtain ⟨W3, hW3⟩ : ∃ W3, (W9.alloc (.cells #[.slice none 0 0, .int .i64 0] 93)).alloc (.cells #[.int .i64 1, .int .i64 (-1)] 3) = W3 := ⟨_, rfl⟩
    rw [hW3]
    obtain ⟨g1, g2, g3, g4⟩ := near_new W9 _ _ W3 hW3
    obtain ⟨S, hS⟩ : ∃ S, W9.heap.size = S := ⟨_, rfl⟩
    rw [hS] at g1 g2 g3 g4 ⊢
    have HS9 := Aside0.mk (show w.heap.size ≤ S by rw [← hS]; exact hb9.size)
    have HB3 := Aside0.mk (hb9.trans (g3.mono (by rw [← hS]; exact hb9.size)))
    have HZ3 := Aside0.mk g4
    have HG2 := Aside0.mk g2
    have HJ0 := Aside0.mk (show SeeJ S (S + 2) none W3 from ⟨frozen_cells9 g1, frozen_cells9 g1, (two_cells9 g1).1, (two_cells9 g1).2⟩)
    have hL12 := HT.out.2.2
    have HL2 := Aside0.mk (show 1 ≤ l2.length ∧ l2.length ≤ 6 from ⟨HT.out.2.1.2.2.1, HT.out.2.1.2.2.2.1⟩)
    have HXR := Aside0.mk HT.out.2.1.2.2.2.2
    obtain ⟨adT, hadT⟩ : ∃ ad : Addr, ad = ⟨S + 1, 0, none⟩ := ⟨_, rfl⟩
    rw [← hadT]
    have HADT := Aside0.mk hadT
    clear hW9 hb9 hs9 hW3 g1 g2 g3 g4 hS HB HOV hL12 hadT
    generalize hLL1 : l1.length = L1 at *
    have HLL1 := Aside0.mk hLL1
    generalize hLL2 : l2.length = L2 at *
    have HLL2 := Aside0.mk hLL2
    clear hLL1 hLL2
    go_loopg [27] 2 (fun gg s27 wr => ∃ q : Nat, s27 = .int .i64 q ∧ Aside0 (q + gg = 2) ∧ Aside0 (SeeJ S (S + 2) (nearF n l1 (imgsTo n l2 q 0)) wr) ∧ Aside0 (Fr (fun i => i ≠ S ∧ i < W3.heap.size) W3 wr))
    case atStart => exact ⟨0, rfl, ⟨by omega⟩, HJ0, ⟨Fr.refl _ _⟩⟩
    case round =>
      obtain ⟨q, rfl, HQ, HJ, HF⟩ := hrel
      obtain ⟨G, rfl⟩ : ∃ G, G = gk := ⟨gk, rfl⟩
      obtain ⟨wq, hwq⟩ : ∃ wq : World, wq = wr := ⟨wr, rfl⟩
      subst hwq
      by_cases hq : q < 2
      · have hqz : (q : Int) < 2 := by omega
        have hq0 : (0 : Int) ≤ (q : Int) := by omega
        obtain ⟨sg, hsg⟩ : ∃ sg : Int, (if q = 0 then (1 : Int) else -1) = sg := ⟨_, rfl⟩
        have hcT : wq.cell? (adT.add q) = some (.int .i64 sg) := by
          have hblk := (HF.out.block (S + 1) ⟨by omega, by have := HZ3.out; omega⟩).trans HG2.out
          obtain ⟨t0, t1⟩ := two_cells9 hblk
          rw [HADT.out, ← hsg]
          have hq2 : q = 0 ∨ q = 1 := by omega
          rcases hq2 with rfl | rfl
          · exact t0
          · exact t1
        have HSG := Aside0.mk hsg
        have hsg1 : sg = 1 ∨ sg = -1 := by rw [← hsg]; split <;> simp
        have HSG1 := Aside0.mk hsg1
        clear hsg hsg1
        go_wp2
        go_loopg [32] n (fun gg s32 wr => ∃ k : Nat, s32 = .int .i64 k ∧ Aside0 (k + gg = n) ∧ Aside0 (SeeJ S (S + 2) (nearF n l1 (imgsTo n l2 q k)) wr) ∧ Aside0 (Fr (fun i => i ≠ S ∧ i < W3.heap.size) W3 wr))
        case atStart => exact ⟨0, rfl, ⟨by omega⟩, HJ, HF⟩
        case round =>
          obtain ⟨k, rfl, HK, HJK, HFK⟩ := hrel
          obtain ⟨G2, rfl⟩ : ∃ G2, G2 = gk := ⟨gk, rfl⟩
          obtain ⟨wk, hwk⟩ : ∃ wk : World, wk = wr := ⟨wr, rfl⟩
          subst hwk
          clear hcT
          by_cases hk : k < n
          · have hkz : (k : Int) < (n : Int) := by omega
            have hbk : Below w.heap.size w wk := HB3.out.trans (HFK.out.below (fun i hi => ⟨by have := HS9.out; omega, by have := HS9.out; have := HZ3.out; omega⟩))
            have HBK := Aside0.mk hbk
            have HSK := Aside0.mk (show S + 2 ≤ wk.heap.size from by rw [← HZ3.out]; exact HFK.out.size)
            have hcl := slices_Clone_int_int.calls A2 c2 l2 l2 wk (by rw [HLL2.out]; exact Kd.C_below HR2.out hbk) (by rw [HLL2.out]; exact HC2.out) (by unfold slices_Clone_int_int.f; rw [if_pos (by rw [HLL2.out]; have := HL2.out; omega)])
            rw [HLL2.out] at hcl
            have HCL := Aside0.mk hcl
            clear hbk hcl
            go_wp2_with fail
            refine HCL.out.mono ?_
            rintro e w1 ⟨v1, rfl, hr1, hb1⟩
            obtain ⟨Av, cv, e1⟩ := Kd.R_slice hr1
            subst e1
            rw [HLL2.out] at hr1 ⊢
            obtain ⟨ad1, e2, _⟩ := Kd.at_int (Kd.R_reads' hr1).2.2 0 (by omega) (by rw [HLL2.out]; have := HL2.out; omega)
            subst e2
            obtain ⟨g, e3⟩ := Kd.R_head hr1
            subst e3
            have HR1V := Aside0.mk hr1
            have HB1 := Aside0.mk hb1
            have HGB := Aside0.mk (show wk.heap.size ≤ g from Kd.R_base hr1 g rfl)
            clear hr1 hb1
            go_wp2
            go_loopg [39] L2 (fun gg s39 wr => ∃ i : Nat, s39 = .int .i64 i ∧ Aside0 (i + gg = L2) ∧ Aside0 (Kd.R (Kd.int .i64) 3 wr wk.heap.size (fun _ => True) (.slice (some ⟨g, 0, none⟩) L2 cv) (mixV (fun x => ((k : Int) + sg * x) % (n : Int)) l2 i)) ∧ Aside0 (Fr (fun j => j ≠ g ∧ j < w1.heap.size) w1 wr))
            case atStart => exact ⟨0, rfl, ⟨by omega⟩, ⟨by unfold mixV; simpa using HR1V.out⟩, ⟨Fr.refl _ _⟩⟩
            case round =>
              obtain ⟨i, rfl, HI, HRI, HFI⟩ := hrel
              obtain ⟨wi, hwi⟩ : ∃ wi : World, wi = wr := ⟨wr, rfl⟩
              subst hwi
              by_cases hi : i < L2
              · have hiz : (i : Int) < (L2 : Int) := by omega
                have hi0 : (0 : Int) ≤ (i : Int) := by omega
                have hil : i < l2.length := by rw [HLL2.out]; exact hi
                obtain ⟨hcx, hfx⟩ := Kd.R_celln 0 HRI.out (i : Int) hi0 hiz
                rw [Int.toNat_natCast] at hcx hfx
                have hrx : rdOf 0 (mixV (fun x => ((k : Int) + sg * x) % (n : Int)) l2 i) (i : Int) = rd l2 (i : Int) := mixV_at hil
                rw [hrx] at hcx
                have hset := mixV_set (f := fun x => ((k : Int) + sg * x) % (n : Int)) hil
                have hxr := HXR.out _ (rd_mem hil)
                generalize rd l2 (i : Int) = x at hcx hset hxr
                have hn16 := HN.out
                obtain ⟨m, hm⟩ : ∃ m, sg * x = m := ⟨_, rfl⟩
                have hmb : -16 ≤ m ∧ m ≤ 16 := by
                  rw [← hm]
                  rcases HSG1.out with h | h
                  · rw [h]; omega
                  · rw [h]; omega
                have wm : IntKind.i64.wrap (sg * x) = m := by rw [hm]; exact i64_id (by omega) (by omega)
                have wm2 : wrap64 (sg * x) = m := by rw [hm]; exact wrap_id (by omega) (by omega)
                have wk1 : IntKind.i64.wrap ((k : Int) + m) = (k : Int) + m := i64_id (by omega) (by omega)
                have wk2 : wrap64 ((k : Int) + m) = (k : Int) + m := wrap_id (by omega) (by omega)
                rw [hm] at hset
                have HMOD := Aside0.mk (mod_f (n := (n : Int)) (x := (k : Int) + m) (by omega) (by omega))
                generalize ((k : Int) + m) % (n : Int) = r at hset HMOD
                have HSET := Aside0.mk hset
                have hL26 : L2 ≤ 6 := HL2.out.2
                clear hset hm hxr hrx hil hn16 hmb
                go_wp2_with fail
                refine (voices_circle_mod.calls _ _ _ _ HMOD.out).mono ?_
                rintro e w2 ⟨rfl, hd⟩
                obtain ⟨qd, rfl⟩ := hd
                have HPUT := Aside0.mk (show Kd.R (Kd.int .i64) 3 ((wi.drewN qd).setCell ⟨g, i, none⟩ (.int .i64 r)) wk.heap.size (fun _ => True) (.slice (some ⟨g, 0, none⟩) L2 cv) (mixV (fun x => ((k : Int) + sg * x) % (n : Int)) l2 (i + 1)) from by
                  have h := Kd.R_putn (Kd.R_below HRI.out (pw_below_drewN (Below.refl _ _) qd)) (i : Int) r
                  rw [Int.toNat_natCast, HSET.out] at h
                  exact h)
                go_wp2
                go_roundg (gk - 1)
                case measure => have := HI.out; omega
                case rel => exact ⟨i + 1, by first | go_num | (rw [wrap_id (by omega) (by omega)]; rfl), ⟨by have := HI.out; omega⟩, HPUT, ⟨HFI.out.trans ((Fr.drewN _ wi qd).trans (Fr.setCell _ _ (fun h => h.1 rfl)))⟩⟩
              · have hiL : i = L2 := by have := HI.out; omega
                have hiz : ¬ (i : Int) < (L2 : Int) := by omega
                have hmx : mixV (fun x => ((k : Int) + sg * x) % (n : Int)) l2 i = imgV n l2 q k := by
                  rw [hiL, ← HLL2.out, mixV_all, ← HSG.out]; rfl
                have hRI := HRI.out
                rw [hmx] at hRI
                have himl : (imgV n l2 q k).length = L2 := by rw [imgV_len, HLL2.out]
                have HIML := Aside0.mk himl
                have htw := img_two HT.out q k
                have hbi : Below wk.heap.size wk wi := HB1.out.trans ((HFI.out.mono (Q := fun j => j < wk.heap.size) (fun j hj => ⟨by have := HGB.out; omega, Nat.lt_of_lt_of_le hj HB1.out.size⟩)).below (fun j hj => hj))
                have HBI := Aside0.mk hbi
                have hbest := best_two htw (w := wi) (Aa := A1) (ca := c1) (Ab := some ⟨g, 0, none⟩) (cb := cv) (by rw [HLL1.out]; exact Kd.C_below HR1.out (HBK.out.trans (hbi.mono HBK.out.size))) (by rw [HLL1.out]; exact HC1.out) (Kd.R_reads' hRI).2.2 (by rw [himl]; exact (Kd.R_reads' hRI).2.1)
                rw [HLL1.out, himl] at hbest
                generalize hct : (bestV (n : Int) l1 (imgV n l2 q k)).2 = ct at hbest
                generalize (bestV (n : Int) l1 (imgV n l2 q k)).1 = ol at hbest
                have HCT := Aside0.mk hct
                have HBEST := Aside0.mk hbest
                have HRI2 := Aside0.mk hRI
                clear hct hbest hRI hmx htw hbi himl hiL
                go_wp2_with fail
                refine HBEST.out.mono ?_
                rintro e w3 ⟨Ab3, cb3, rfl, _, _, hb3⟩
                obtain ⟨Lol, hLol⟩ : ∃ Lol, (optL ol).length = Lol := ⟨_, rfl⟩
                rw [hLol]
                have hb13 : Below wi.heap.size wi w3 := hb3
                have hrs := voices_rising.calls (some ⟨g, 0, none⟩) cv (imgV n l2 q k) (risL (imgV n l2 q k)) w3 (Kd.C_below (Kd.R_reads' HRI2.out).2.2 hb13) (by rw [HIML.out]; exact (Kd.R_reads' HRI2.out).2.1) (by unfold voices_rising.f; rw [if_pos (by rw [HIML.out]; have := HL2.out; omega)]; rfl)
                rw [HIML.out] at hrs
                have HRS := Aside0.mk hrs
                have HB13 := Aside0.mk hb13
                clear hrs hb13 hb3 hLol
                go_wp2_with fail
                refine HRS.out.mono ?_
                rintro e w4 ⟨v4, rfl, hr4, hb4⟩
                have hrl : (risL (imgV n l2 q k)).length = L2 := by rw [risL_len, HIML.out]
                obtain ⟨A4, c4, e4⟩ := Kd.R_slice hr4
                subst e4
                obtain ⟨ad4, e5, _⟩ := Kd.at_int (Kd.R_reads' hr4).2.2 0 (by omega) (by rw [hrl]; have := HL2.out; omega)
                subst e5
                have hf4 : Fr (fun i => i < wk.heap.size) wk w4 := ((Fr.of_below HBI.out (fun _ h => h)).trans (Fr.of_below HB13.out (fun j hj => Nat.lt_of_lt_of_le hj HBI.out.size))).trans (Fr.of_below hb4 (fun j hj => Nat.lt_of_lt_of_le hj (Nat.le_trans HBI.out.size HB13.out.size)))
                have hw3 : S + 2 ≤ w3.heap.size := Nat.le_trans HSK.out (Nat.le_trans HBI.out.size HB13.out.size)
                have hsee := see_calls (S := S) (base := S + 2) (st := nearF (n : Int) l1 (imgsTo n l2 q k)) (v := risL (imgV n l2 q k)) (c := ct) (ad := ad4) (cap := c4) (W := w4) (see_move HJK.out hf4) (Kd.R_lower (Kd.R_mono (Kd.R_bound hr4) (fun j hj => by have := hj.2.1; omega)) hw3) (fun w0 d h => by
                  have := nearF_len (imgsTo n l2 q k) none (fun v hv => imgsTo_len v hv) (fun w d h => by cases h) w0 d h
                  rw [hrl, this, HLL2.out]) (by rw [hrl]; have := HL2.out; omega)
                rw [← HCT.out, ← nearF_snoc, ← imgsTo_next, HCT.out, hrl] at hsee
                have HSEE := Aside0.mk hsee
                have HF4 := Aside0.mk hf4
                rw [hrl]
                clear hsee hr4 hb4 hf4 hw3 hrl
                go_wp2_with fail
                refine HSEE.out.mono ?_
                rintro e w5 ⟨⟨u, rfl⟩, hj5, hf5⟩
                have HJ5 := Aside0.mk hj5
                have HF5 := Aside0.mk hf5
                clear hj5 hf5
                have hkb : k < 1000 := by have := HN.out; omega
                go_wp2
                go_roundg (G2 - 1)
                case measure => have := HK.out; omega
                case rel => exact ⟨k + 1, by first | go_num | (rw [wrap_id (by omega) (by omega)]; rfl), ⟨by have := HK.out; omega⟩, HJ5, ⟨HFK.out.trans ((HF4.out.mono (fun j hj => Nat.lt_of_lt_of_le hj.2 HFK.out.size)).trans (HF5.out.mono (fun j hj => ⟨hj.1, Nat.lt_of_lt_of_le hj.2 (Nat.le_trans HFK.out.size HF4.out.size)⟩)))⟩⟩
          · have hkn : k = n := by have := HK.out; omega
            have hkz : ¬ (k : Int) < (n : Int) := by omega
            have HJN := Aside0.mk (show SeeJ S (S + 2) (nearF (n : Int) l1 (imgsTo n l2 (q + 1) 0)) wk from by have h := HJK.out; rw [hkn, imgsTo_turn] at h; exact h)
            clear hkn
            go_wp2
            go_roundg (G - 1)
            case measure => have := HQ.out; omega
            case rel => exact ⟨q + 1, by first | go_num | (rw [wrap_id (by omega) (by omega)]; rfl), ⟨by have := HQ.out; omega⟩, HJN, HFK⟩
      · have hq2 : q = 2 := by have := HQ.out; omega
        have hqz : ¬ (q : Int) < 2 := by omega
        have hJ := HJ.out
        rw [hq2] at hJ
        obtain ⟨⟨v, ct⟩, hp⟩ := nearF_some (n := (n : Int)) (a := l1) (imgsTo n l2 2 0) none (.inl (imgs_ne HN.out.1 l2))
        have hp2 : nearF (n : Int) l1 (imgsTo n l2 2 0) = some (v, ct) := hp
        rw [hp2] at hJ
        obtain ⟨f0, f1, ad9, cap9, q0, q1, hR9⟩ := hJ
        have hnv : nearV (n : Int) l1 l2 = some (v, ct) := by unfold nearV; rw [Int.toNat_natCast]; exact hp2
        have h1 := HRES1.out
        have h2 := HRES2.out
        rw [hnv] at h1 h2
        have HR9 := Aside0.mk hR9
        have H1 := Aside0.mk h1
        have H2 := Aside0.mk h2
        generalize hLv : v.length = Lv at q0 HR9
        have hbq : Below w.heap.size w wq := HB3.out.trans (HF.out.below (fun i hi => ⟨by have := HS9.out; omega, by have := HS9.out; have := HZ3.out; omega⟩))
        have HBQ := Aside0.mk hbq
        clear hq2 hp hp2 hnv h1 h2 hR9 hbq hLv f0 f1
        go_wp2
        go_region
        go_wp2
        go_ret3
        refine ⟨_, by rw [← H2.out]; rfl, ?_, below_drew1 HBQ.out⟩
        rw [← H1.out]
        exact Kd.R_below (Kd.R_mono (Kd.R_lower HR9.out (by have := HS9.out; omega)) (fun _ _ => trivial)) (below_drew1 (Below.refl _ _))
  · rw [decide_eq_false hc] at hv
    rw [if_neg hc] at h
    have HV := Aside0.mk hv
    simp only [Option.some.injEq, Prod.mk.injEq] at h
    obtain ⟨rfl, rfl, rfl⟩ := h
    clear hv hc
    go_enter Tryd.func42, Tryd.ntmps42
    go_wp2_with (first | ((with_reducible refine gate_dst (N := 22) rfl ?_); (try (refine gate_guard (by rfl) ?_; dsimp only)); refine Kd.N_lit (Kd.slice 3 (Kd.int .i64)) _ 22 ?hg (N' := 22) ?hd (xs := ([l1, l2] : List (List Int))) (inner := [.slice A1 l1.length c1, .slice A2 l2.length c2]) (ok := (fun k_ => ((k_ < w.heap.size ∨ k_ < w.heap.size) ∨ w.heap.size ≤ k_))) (okp := (fun k_ => ((k_ < w.heap.size ∨ k_ < w.heap.size) ∨ w.heap.size ≤ k_))) ?hr ?hp (fun _ hk => hk) ((show ∀ k_, w.heap.size ≤ k_ → (fun k_ => ((k_ < w.heap.size ∨ k_ < w.heap.size) ∨ w.heap.size ≤ k_)) k_ from fun k_ hk => (.inr (Nat.le_trans (below_size (by repeat (first | (with_reducible first | exact HB.out | apply below_alloc | apply pw_below_drewN | apply below_drew1) | exact HB.out))) hk))) _ (Nat.le_refl _)) (Below.refl _ _) (Nat.le_refl _) (by simp) ?_; (case hd => rfl); (case hg => rfl); (case hr => first | (go_simp; done) | (go_simp; rfl)); (case hp => exact (Reps.one (show Kd.FK (Kd.slice 3 (Kd.int .i64)) _ _ l1 [.slice A1 l1.length c1] from (Kd.FK_slice_mk (Kd.V_reads' (Kd.V_mono (ok' := (fun k_ => ((k_ < w.heap.size ∨ k_ < w.heap.size) ∨ w.heap.size ≤ k_))) (HO1.out) (fun k_ hk => hk))).2.1 (Kd.V_F (Kd.V_mono (ok' := (fun k_ => ((k_ < w.heap.size ∨ k_ < w.heap.size) ∨ w.heap.size ≤ k_))) (HO1.out) (fun k_ hk => hk))))) (Reps.one (show Kd.FK (Kd.slice 3 (Kd.int .i64)) _ _ l2 [.slice A2 l2.length c2] from (Kd.FK_slice_mk (Kd.V_reads' (Kd.V_mono (ok' := (fun k_ => ((k_ < w.heap.size ∨ k_ < w.heap.size) ∨ w.heap.size ≤ k_))) (HO2.out) (fun k_ hk => hk))).2.1 (Kd.V_F (Kd.V_mono (ok' := (fun k_ => ((k_ < w.heap.size ∨ k_ < w.heap.size) ∨ w.heap.size ≤ k_))) (HO2.out) (fun k_ hk => hk))))) (Reps.none _ _)))); intro v1002 w10 ho11 hb hg_ hnew_; clear hg_ hnew_; rw [← HY.out] at ho11; have n2_ := Aside0.mk (Kd.N_lower ho11 (below_size (by repeat (first | (with_reducible first | exact HB.out | apply below_alloc | apply pw_below_drewN | apply below_drew1) | exact HB.out)))); have n3_ := Aside0.mk (below_step (by repeat (first | (with_reducible first | exact HB.out | apply below_alloc | apply pw_below_drewN | apply below_drew1) | exact HB.out)) hb); clear HO1 HO2; clear HB; have HOV := n2_; have HB := n3_; clear n2_ n3_; clear hb ho11; obtain ⟨Ao12, co12, eo12⟩ := Kd.N_slice HOV.out; subst eo12) | ((with_reducible refine gate_callee (f := 67) rfl ?_); refine goesL_ (some 23) rfl rfl Tryd.func67 (by kernel_rfl) rfl #[.int .i64 (_ : Int), .slice Ao12 y.length co12] rfl (by (try simp only [List.map_toArray, List.map_cons, List.map_nil]); first | done | rfl) ?_; (with_reducible refine (voices_circle_valid.calls k _ _ _ y false _ ?side1 ?side2 HV.out).mono ?_); (case side1 => repeat (first | exact (Kd.N_reads' HOV.out).2.2 | (with_reducible refine Kd.C_alloc ?_ _) | (with_reducible refine Kd.C_drewN ?_ _) | (with_reducible refine Kd.C_drew ?_))); (case side2 => exact (Kd.N_reads' HOV.out).2.1); rintro e w' ⟨rfl, ⟨nd, rfl⟩⟩; refine ⟨_, rfl, ?_⟩))
    go_ret3
    exact ⟨_, by first | rfl | simp, Kd.R_nil _ _ _ _ _, (by repeat (first | (with_reducible first | exact HB.out | apply below_alloc | apply pw_below_drewN | apply below_drew1) | exact HB.out))⟩

end Go.Proofs.YtfpnojcbhbkfaaaDoor.P
namespace Go.Proofs.YtfpnojcbhbkfaaaDoor.P
open Go.RowKit Go.Proofs.YtfpnojcbhbkfaaaDoorW.PrintWords Go.Proofs.YtfpnojcbhbkfaaaDoorW.PrintLast Go.Proofs.YtfpnojcbhbkfaaaDoorW.PrintMore
attribute [local go_sem] max2_int min2_int max_two min_two max_three min_three max_four min_four   -- for this text's walks alone
set_option linter.unusedVariables false
set_option linter.unusedSimpArgs false

/-! voices.Cost -/
def voices_Cost.f (a0 : Int) (l1 l2 : List Int) : Option (Int × Int) := if TwoN a0 l1 l2 then some ((bestV a0 l1 l2).2, 0) else some (0, 2)
set_option maxHeartbeats 8000000 in
set_option maxRecDepth 100000 in
theorem voices_Cost.calls (a0 : Int) (A1 : Option Addr) (c1 : Nat) (l1 : List Int) (A2 : Option Addr) (c2 : Nat) (l2 : List Int) (r1 r2 : Int) (w : World) (hr1 : Kd.C (Kd.int .i64) w A1 l1.length l1) (hc1 : l1.length ≤ c1) (hr2 : Kd.C (Kd.int .i64) w A2 l2.length l2) (hc2 : l2.length ≤ c2) (h : voices_Cost.f a0 l1 l2 = some (r1, r2)) :
    Calls Tryd.prog 33 #[.int .i64 a0, .slice A1 l1.length c1, .slice A2 l2.length c2] w fun e w' => e = .returned (.tuple #[.int .i64 r1, .int .i64 r2]) ∧ Below w.heap.size w w' := by
  have HB := Aside0.mk (Below.refl w.heap.size w)
  have HO1 := Aside0.mk (Kd.V_mono (ok' := (fun k_ => ((k_ < w.heap.size ∨ k_ < w.heap.size) ∨ w.heap.size ≤ k_))) (V_of_C (e := 3) (base := w.heap.size) hr1 hc1) (fun _ hk => .inl (.inl hk)))
  have HO2 := Aside0.mk (Kd.V_mono (ok' := (fun k_ => ((k_ < w.heap.size ∨ k_ < w.heap.size) ∨ w.heap.size ≤ k_))) (V_of_C (e := 3) (base := w.heap.size) hr2 hc2) (fun _ hk => .inl (.inl hk)))
  have HR1 := Aside0.mk hr1
  have HR2 := Aside0.mk hr2
  have HC1 := Aside0.mk hc1
  have HC2 := Aside0.mk hc2
  unfold voices_Cost.f at h
  obtain ⟨k, hv⟩ := Ev.rounds (g := fun k => voices_circle_valid.f k a0 [l1, l2]) (valid2_ev a0 l1 l2)
  obtain ⟨y, hy⟩ : ∃ y : List (List Int), y = [l1, l2] := ⟨_, rfl⟩
  rw [← hy] at hv
  have HY := Aside0.mk hy
  clear hy hr1 hr2 hc1 hc2
  by_cases hc : TwoN a0 l1 l2
  · rw [decide_eq_true hc] at hv
    rw [if_pos hc] at h
    have HV := Aside0.mk hv
    have HT := Aside0.mk hc
    simp only [Option.some.injEq, Prod.mk.injEq] at h
    obtain ⟨hres, rfl⟩ := h
    have HRES := Aside0.mk hres
    clear hv hc hres
    go_enter Tryd.func33, Tryd.ntmps33
    go_wp2_with (first | ((with_reducible refine gate_dst (N := 13) rfl ?_); (try (refine gate_guard (by rfl) ?_; dsimp only)); refine Kd.N_lit (Kd.slice 3 (Kd.int .i64)) _ 22 ?hg (N' := 13) ?hd (xs := ([l1, l2] : List (List Int))) (inner := [.slice A1 l1.length c1, .slice A2 l2.length c2]) (ok := (fun k_ => ((k_ < w.heap.size ∨ k_ < w.heap.size) ∨ w.heap.size ≤ k_))) (okp := (fun k_ => ((k_ < w.heap.size ∨ k_ < w.heap.size) ∨ w.heap.size ≤ k_))) ?hr ?hp (fun _ hk => hk) ((show ∀ k_, w.heap.size ≤ k_ → (fun k_ => ((k_ < w.heap.size ∨ k_ < w.heap.size) ∨ w.heap.size ≤ k_)) k_ from fun k_ hk => (.inr (Nat.le_trans (below_size (by repeat (first | (with_reducible first | exact HB.out | apply below_alloc | apply pw_below_drewN | apply below_drew1) | exact HB.out))) hk))) _ (Nat.le_refl _)) (Below.refl _ _) (Nat.le_refl _) (by simp) ?_; (case hd => rfl); (case hg => rfl); (case hr => first | (go_simp; done) | (go_simp; rfl)); (case hp => exact (Reps.one (show Kd.FK (Kd.slice 3 (Kd.int .i64)) _ _ l1 [.slice A1 l1.length c1] from (Kd.FK_slice_mk (Kd.V_reads' (Kd.V_mono (ok' := (fun k_ => ((k_ < w.heap.size ∨ k_ < w.heap.size) ∨ w.heap.size ≤ k_))) (HO1.out) (fun k_ hk => hk))).2.1 (Kd.V_F (Kd.V_mono (ok' := (fun k_ => ((k_ < w.heap.size ∨ k_ < w.heap.size) ∨ w.heap.size ≤ k_))) (HO1.out) (fun k_ hk => hk))))) (Reps.one (show Kd.FK (Kd.slice 3 (Kd.int .i64)) _ _ l2 [.slice A2 l2.length c2] from (Kd.FK_slice_mk (Kd.V_reads' (Kd.V_mono (ok' := (fun k_ => ((k_ < w.heap.size ∨ k_ < w.heap.size) ∨ w.heap.size ≤ k_))) (HO2.out) (fun k_ hk => hk))).2.1 (Kd.V_F (Kd.V_mono (ok' := (fun k_ => ((k_ < w.heap.size ∨ k_ < w.heap.size) ∨ w.heap.size ≤ k_))) (HO2.out) (fun k_ hk => hk))))) (Reps.none _ _)))); intro v1002 w10 ho11 hb hg_ hnew_; clear hg_ hnew_; rw [← HY.out] at ho11; have n2_ := Aside0.mk (Kd.N_lower ho11 (below_size (by repeat (first | (with_reducible first | exact HB.out | apply below_alloc | apply pw_below_drewN | apply below_drew1) | exact HB.out)))); have n3_ := Aside0.mk (below_step (by repeat (first | (with_reducible first | exact HB.out | apply below_alloc | apply pw_below_drewN | apply below_drew1) | exact HB.out)) hb); clear HO1 HO2; clear HB; have HOV := n2_; have HB := n3_; clear n2_ n3_; clear hb ho11; obtain ⟨Ao12, co12, eo12⟩ := Kd.N_slice HOV.out; subst eo12) | ((with_reducible refine gate_callee (f := 67) rfl ?_); refine goesL_ (some 14) rfl rfl Tryd.func67 (by kernel_rfl) rfl #[.int .i64 a0, .slice Ao12 y.length co12] rfl (by (try simp only [List.map_toArray, List.map_cons, List.map_nil]); first | done | rfl) ?_; (with_reducible refine (voices_circle_valid.calls k a0 _ _ y true _ ?side1 ?side2 HV.out).mono ?_); (case side1 => repeat (first | exact (Kd.N_reads' HOV.out).2.2 | (with_reducible refine Kd.C_alloc ?_ _) | (with_reducible refine Kd.C_drewN ?_ _) | (with_reducible refine Kd.C_drew ?_))); (case side2 => exact (Kd.N_reads' HOV.out).2.1); rintro e w' ⟨rfl, ⟨nd, rfl⟩⟩; refine ⟨_, rfl, ?_⟩))
    go_wp2_with fail
    refine (best_two HT.out (Kd.C_below HR1.out (by repeat (first | (with_reducible first | exact HB.out | apply below_alloc | apply pw_below_drewN | apply below_drew1) | exact HB.out))) HC1.out (Kd.C_below HR2.out (by repeat (first | (with_reducible first | exact HB.out | apply below_alloc | apply pw_below_drewN | apply below_drew1) | exact HB.out))) HC2.out).mono ?_
    rintro e w12 ⟨A9, c9, rfl, hr9, hn9, hb9⟩
    have n0_ := Aside0.mk (below_step (by repeat (first | (with_reducible first | exact HB.out | apply below_alloc | apply pw_below_drewN | apply below_drew1) | exact HB.out)) hb9)
    have HR9 := Aside0.mk (Kd.R_lower hr9 (below_size (by repeat (first | (with_reducible first | exact HB.out | apply below_alloc | apply pw_below_drewN | apply below_drew1) | exact HB.out))))
    clear HB
    have HB := n0_
    clear n0_ hr9 hn9 hb9
    go_wp2
    go_ret2
    exact ⟨by rw [← HRES.out]; first | rfl | simp, HB.out⟩
  · rw [decide_eq_false hc] at hv
    rw [if_neg hc] at h
    have HV := Aside0.mk hv
    simp only [Option.some.injEq, Prod.mk.injEq] at h
    obtain ⟨rfl, rfl⟩ := h
    clear hv hc
    go_enter Tryd.func33, Tryd.ntmps33
    go_wp2_with (first | ((with_reducible refine gate_dst (N := 13) rfl ?_); (try (refine gate_guard (by rfl) ?_; dsimp only)); refine Kd.N_lit (Kd.slice 3 (Kd.int .i64)) _ 22 ?hg (N' := 13) ?hd (xs := ([l1, l2] : List (List Int))) (inner := [.slice A1 l1.length c1, .slice A2 l2.length c2]) (ok := (fun k_ => ((k_ < w.heap.size ∨ k_ < w.heap.size) ∨ w.heap.size ≤ k_))) (okp := (fun k_ => ((k_ < w.heap.size ∨ k_ < w.heap.size) ∨ w.heap.size ≤ k_))) ?hr ?hp (fun _ hk => hk) ((show ∀ k_, w.heap.size ≤ k_ → (fun k_ => ((k_ < w.heap.size ∨ k_ < w.heap.size) ∨ w.heap.size ≤ k_)) k_ from fun k_ hk => (.inr (Nat.le_trans (below_size (by repeat (first | (with_reducible first | exact HB.out | apply below_alloc | apply pw_below_drewN | apply below_drew1) | exact HB.out))) hk))) _ (Nat.le_refl _)) (Below.refl _ _) (Nat.le_refl _) (by simp) ?_; (case hd => rfl); (case hg => rfl); (case hr => first | (go_simp; done) | (go_simp; rfl)); (case hp => exact (Reps.one (show Kd.FK (Kd.slice 3 (Kd.int .i64)) _ _ l1 [.slice A1 l1.length c1] from (Kd.FK_slice_mk (Kd.V_reads' (Kd.V_mono (ok' := (fun k_ => ((k_ < w.heap.size ∨ k_ < w.heap.size) ∨ w.heap.size ≤ k_))) (HO1.out) (fun k_ hk => hk))).2.1 (Kd.V_F (Kd.V_mono (ok' := (fun k_ => ((k_ < w.heap.size ∨ k_ < w.heap.size) ∨ w.heap.size ≤ k_))) (HO1.out) (fun k_ hk => hk))))) (Reps.one (show Kd.FK (Kd.slice 3 (Kd.int .i64)) _ _ l2 [.slice A2 l2.length c2] from (Kd.FK_slice_mk (Kd.V_reads' (Kd.V_mono (ok' := (fun k_ => ((k_ < w.heap.size ∨ k_ < w.heap.size) ∨ w.heap.size ≤ k_))) (HO2.out) (fun k_ hk => hk))).2.1 (Kd.V_F (Kd.V_mono (ok' := (fun k_ => ((k_ < w.heap.size ∨ k_ < w.heap.size) ∨ w.heap.size ≤ k_))) (HO2.out) (fun k_ hk => hk))))) (Reps.none _ _)))); intro v1002 w10 ho11 hb hg_ hnew_; clear hg_ hnew_; rw [← HY.out] at ho11; have n2_ := Aside0.mk (Kd.N_lower ho11 (below_size (by repeat (first | (with_reducible first | exact HB.out | apply below_alloc | apply pw_below_drewN | apply below_drew1) | exact HB.out)))); have n3_ := Aside0.mk (below_step (by repeat (first | (with_reducible first | exact HB.out | apply below_alloc | apply pw_below_drewN | apply below_drew1) | exact HB.out)) hb); clear HO1 HO2; clear HB; have HOV := n2_; have HB := n3_; clear n2_ n3_; clear hb ho11; obtain ⟨Ao12, co12, eo12⟩ := Kd.N_slice HOV.out; subst eo12) | ((with_reducible refine gate_callee (f := 67) rfl ?_); refine goesL_ (some 14) rfl rfl Tryd.func67 (by kernel_rfl) rfl #[.int .i64 a0, .slice Ao12 y.length co12] rfl (by (try simp only [List.map_toArray, List.map_cons, List.map_nil]); first | done | rfl) ?_; (with_reducible refine (voices_circle_valid.calls k a0 _ _ y false _ ?side1 ?side2 HV.out).mono ?_); (case side1 => repeat (first | exact (Kd.N_reads' HOV.out).2.2 | (with_reducible refine Kd.C_alloc ?_ _) | (with_reducible refine Kd.C_drewN ?_ _) | (with_reducible refine Kd.C_drew ?_))); (case side2 => exact (Kd.N_reads' HOV.out).2.1); rintro e w' ⟨rfl, ⟨nd, rfl⟩⟩; refine ⟨_, rfl, ?_⟩))
    go_ret2
    exact ⟨by first | rfl | simp, (by repeat (first | (with_reducible first | exact HB.out | apply below_alloc | apply pw_below_drewN | apply below_drew1) | exact HB.out))⟩

end Go.Proofs.YtfpnojcbhbkfaaaDoor.P
namespace Go.Proofs.YtfpnojcbhbkfaaaDoor.P
open Go.RowKit Go.Proofs.YtfpnojcbhbkfaaaDoorW.PrintWords Go.Proofs.YtfpnojcbhbkfaaaDoorW.PrintLast Go.Proofs.YtfpnojcbhbkfaaaDoorW.PrintMore
attribute [local go_sem] max2_int min2_int max_two min_two max_three min_three max_four min_four   -- for this text's walks alone
set_option linter.unusedVariables false
set_option linter.unusedSimpArgs false

/-! ### sackbuttop_leads: function 30 -/
def sackbuttop_leads.f  : Option (Bool) := (voices_Cost.f 12 (([0] : List Int)) (([11] : List Int))).bind fun bt1007 => (if bt1007.1 = 1 then (some (bt1007.2 == 0)) else (some false))
set_option maxHeartbeats 8000000 in
set_option maxRecDepth 100000 in
theorem sackbuttop_leads.calls  (r : Bool) (w : World) (h : sackbuttop_leads.f  = some r) :
    Calls Tryd.prog 30 #[] w fun e w' => e = .returned (.bool r) ∧ Below w.heap.size w w' := by
  have HB := Aside0.mk (Below.refl w.heap.size w)
  have H : ((voices_Cost.f 12 (([0] : List Int)) (([11] : List Int))).bind fun bt1007 => (if bt1007.1 = 1 then (some (bt1007.2 == 0)) else (some false))) = some r := h
  clear h
  obtain ⟨y1001, hy1001⟩ : ∃ y_ : List Int, y_ = (([0] : List Int)) := ⟨_, rfl⟩
  replace H : ((voices_Cost.f 12 y1001 (([11] : List Int))).bind fun bt1007 => (if bt1007.1 = 1 then (some (bt1007.2 == 0)) else (some false))) = some r := by first | (rw [hy1001]; with_reducible exact H) | (have H2_ := (Option.bind_some _ _).symm.trans H; rw [hy1001]; with_reducible exact H2_) | (have H2_ := (Option.bind_some _ _).symm.trans H; with_reducible exact H2_) | with_reducible exact H | (rw [hy1001]; exact H) | exact H
  have Ny1001 := Aside0.mk hy1001
  clear hy1001
  obtain ⟨y1004, hy1004⟩ : ∃ y_ : List Int, y_ = (([11] : List Int)) := ⟨_, rfl⟩
  replace H : ((voices_Cost.f 12 y1001 y1004).bind fun bt1007 => (if bt1007.1 = 1 then (some (bt1007.2 == 0)) else (some false))) = some r := by first | (rw [hy1004]; with_reducible exact H) | (have H2_ := (Option.bind_some _ _).symm.trans H; rw [hy1004]; with_reducible exact H2_) | (have H2_ := (Option.bind_some _ _).symm.trans H; with_reducible exact H2_) | with_reducible exact H | (rw [hy1004]; exact H) | exact H
  have Ny1004 := Aside0.mk hy1004
  clear hy1004
  replace H := Option.bind_eq_some_iff.mp H
  obtain ⟨⟨t1007, t1008⟩, A10, H⟩ := H
  replace H : (if t1007 = 1 then (some (t1008 == 0)) else (some false)) = some r := H
  have A1 := Aside0.mk A10
  clear A10
  by_cases c2 : t1007 = 1
  · rw [if_pos c2] at H
    have c2b0 : (t1007 == 1) = true := beq_iff_eq.mpr c2
    have c2b1 : (t1007 != 1) = false := bne_eq_false_iff_eq.mpr c2
    clear c2
    obtain rfl := Option.some.inj H
    go_enter Tryd.func30, Tryd.ntmps30
    go_wp2_with (first | ((with_reducible refine gate_dst (N := 4) rfl ?_); refine Kd.R_lit (Kd.int .i64) _ 3 ?hg (N := 4) ?hd (xs := ([0] : List Int)) (inner := [.int .i64 0]) (ok := fun _ => True) (okp := fun _ => True) ?hr ?hp (fun _ hk => hk) trivial (Below.refl _ _) (Nat.le_refl _) (by simp) ?_; (case hd => rfl); (case hg => rfl); (case hr => first | (go_simp; done) | (go_simp; rfl)); (case hp => exact (Reps.one (show Kd.M (Kd.int .i64) _ _ _ 0 [.int .i64 0] from rfl) (Reps.none _ _))); intro v1002 w3 ho4 hb hg_ hnew_; clear hg_ hnew_; (first | rw [← Ny1001.out] at ho4 | (simp only [Int.reduceToNat] at ho4; rw [← Ny1001.out] at ho4)); have n0_ := Aside0.mk (Kd.R_lower ho4 (below_size (by repeat (first | (with_reducible first | exact HB.out | apply below_alloc | apply pw_below_drewN | apply below_drew1) | exact HB.out)))); have n1_ := Aside0.mk (below_step (by repeat (first | (with_reducible first | exact HB.out | apply below_alloc | apply pw_below_drewN | apply below_drew1) | exact HB.out)) hb); clear HB; have HO1003 := n0_; have HB := n1_; clear n0_ n1_; clear hb ho4) | ((with_reducible refine gate_dst (N := 5) rfl ?_); refine Kd.R_lit (Kd.int .i64) _ 3 ?hg (N := 5) ?hd (xs := ([11] : List Int)) (inner := [.int .i64 11]) (ok := fun _ => True) (okp := fun _ => True) ?hr ?hp (fun _ hk => hk) trivial (Below.refl _ _) (Nat.le_refl _) (by simp) ?_; (case hd => rfl); (case hg => rfl); (case hr => first | (go_simp; done) | (go_simp; rfl)); (case hp => exact (Reps.one (show Kd.M (Kd.int .i64) _ _ _ 11 [.int .i64 11] from rfl) (Reps.none _ _))); intro v1005 w5 ho6 hb hg_ hnew_; clear hg_ hnew_; (first | rw [← Ny1004.out] at ho6 | (simp only [Int.reduceToNat] at ho6; rw [← Ny1004.out] at ho6)); have n0_ := Aside0.mk (Kd.R_elder' (by (with_reducible repeat (first | apply Kd.R_alloc | apply Kd.R_drewN | apply Kd.R_drew)); exact HO1003.out) (Kd.R_base ho6) hb); have n1_ := Aside0.mk (Kd.R_lower (Kd.R_new' ho6 (Kd.R_lt (by (with_reducible repeat (first | apply Kd.R_alloc | apply Kd.R_drewN | apply Kd.R_drew)); exact HO1003.out))) (below_size (by repeat (first | (with_reducible first | exact HB.out | apply below_alloc | apply pw_below_drewN | apply below_drew1) | exact HB.out)))); have n2_ := Aside0.mk (below_step (by repeat (first | (with_reducible first | exact HB.out | apply below_alloc | apply pw_below_drewN | apply below_drew1) | exact HB.out)) hb); clear HO1003; clear HB; have HO1003 := n0_; have HO1006 := n1_; have HB := n2_; clear n0_ n1_ n2_; clear hb ho6; obtain ⟨Ao7, co7, eo7⟩ := Kd.R_slice HO1003.out; subst eo7; obtain ⟨Ao8, co8, eo8⟩ := Kd.R_slice HO1006.out; subst eo8) | ((with_reducible refine gate_callee (f := 33) rfl ?_); refine goesL_ (some 6) rfl rfl Tryd.func33 (by kernel_rfl) rfl #[.int .i64 12, .slice Ao7 y1001.length co7, .slice Ao8 y1004.length co8] rfl (by (try simp only [List.map_toArray, List.map_cons, List.map_nil]); first | done | rfl | (simp only [List.length_drop, List.length_take]; rfl)) ?_; (with_reducible refine (voices_Cost.calls 12 _ _ y1001 _ _ y1004 t1007 t1008 _ ?side1 ?side2 ?side3 ?side4 A1.out).mono ?_); (case side1 => repeat (first | exact (Kd.R_reads' HO1003.out).2.2 | (with_reducible refine Kd.C_alloc ?_ _) | (with_reducible refine Kd.C_drewN ?_ _) | (with_reducible refine Kd.C_drew ?_))); (case side2 => exact (Kd.R_reads' HO1003.out).2.1); (case side3 => repeat (first | exact (Kd.R_reads' HO1006.out).2.2 | (with_reducible refine Kd.C_alloc ?_ _) | (with_reducible refine Kd.C_drewN ?_ _) | (with_reducible refine Kd.C_drew ?_))); (case side4 => exact (Kd.R_reads' HO1006.out).2.1); rintro e w9 ⟨rfl, hb⟩; refine ⟨_, rfl, ?_⟩; have n0_ := Aside0.mk (Kd.R_below (by (with_reducible repeat (first | apply Kd.R_alloc | apply Kd.R_drewN | apply Kd.R_drew)); exact HO1003.out) hb); have n1_ := Aside0.mk (Kd.R_below (by (with_reducible repeat (first | apply Kd.R_alloc | apply Kd.R_drewN | apply Kd.R_drew)); exact HO1006.out) hb); have n2_ := Aside0.mk (below_step (by repeat (first | (with_reducible first | exact HB.out | apply below_alloc | apply pw_below_drewN | apply below_drew1) | exact HB.out)) hb); clear HO1003; clear HO1006; clear HB; have HO1003 := n0_; have HO1006 := n1_; have HB := n2_; clear n0_ n1_ n2_; (try clear hb); (try clear hb2); (try clear hk); (try clear hi)))
    go_ret
    exact ⟨by first | rfl | (simp [errW_none, errW_some] <;> rfl) | (simp [*, errW_none, errW_some] <;> rfl), by repeat (first | (with_reducible first | exact HB.out | apply below_alloc | apply pw_below_drewN | apply below_drew1) | exact HB.out)⟩
  · rw [if_neg c2] at H
    have c2b0 : (t1007 == 1) = false := beq_eq_false_iff_ne.mpr c2
    have c2b1 : (t1007 != 1) = true := bne_iff_ne.mpr c2
    obtain rfl := Option.some.inj H
    go_enter Tryd.func30, Tryd.ntmps30
    go_wp2_with (first | ((with_reducible refine gate_dst (N := 4) rfl ?_); refine Kd.R_lit (Kd.int .i64) _ 3 ?hg (N := 4) ?hd (xs := ([0] : List Int)) (inner := [.int .i64 0]) (ok := fun _ => True) (okp := fun _ => True) ?hr ?hp (fun _ hk => hk) trivial (Below.refl _ _) (Nat.le_refl _) (by simp) ?_; (case hd => rfl); (case hg => rfl); (case hr => first | (go_simp; done) | (go_simp; rfl)); (case hp => exact (Reps.one (show Kd.M (Kd.int .i64) _ _ _ 0 [.int .i64 0] from rfl) (Reps.none _ _))); intro v1002 w10 ho11 hb hg_ hnew_; clear hg_ hnew_; (first | rw [← Ny1001.out] at ho11 | (simp only [Int.reduceToNat] at ho11; rw [← Ny1001.out] at ho11)); have n0_ := Aside0.mk (Kd.R_lower ho11 (below_size (by repeat (first | (with_reducible first | exact HB.out | apply below_alloc | apply pw_below_drewN | apply below_drew1) | exact HB.out)))); have n1_ := Aside0.mk (below_step (by repeat (first | (with_reducible first | exact HB.out | apply below_alloc | apply pw_below_drewN | apply below_drew1) | exact HB.out)) hb); clear HB; have HO1003 := n0_; have HB := n1_; clear n0_ n1_; clear hb ho11) | ((with_reducible refine gate_dst (N := 5) rfl ?_); refine Kd.R_lit (Kd.int .i64) _ 3 ?hg (N := 5) ?hd (xs := ([11] : List Int)) (inner := [.int .i64 11]) (ok := fun _ => True) (okp := fun _ => True) ?hr ?hp (fun _ hk => hk) trivial (Below.refl _ _) (Nat.le_refl _) (by simp) ?_; (case hd => rfl); (case hg => rfl); (case hr => first | (go_simp; done) | (go_simp; rfl)); (case hp => exact (Reps.one (show Kd.M (Kd.int .i64) _ _ _ 11 [.int .i64 11] from rfl) (Reps.none _ _))); intro v1005 w12 ho13 hb hg_ hnew_; clear hg_ hnew_; (first | rw [← Ny1004.out] at ho13 | (simp only [Int.reduceToNat] at ho13; rw [← Ny1004.out] at ho13)); have n0_ := Aside0.mk (Kd.R_elder' (by (with_reducible repeat (first | apply Kd.R_alloc | apply Kd.R_drewN | apply Kd.R_drew)); exact HO1003.out) (Kd.R_base ho13) hb); have n1_ := Aside0.mk (Kd.R_lower (Kd.R_new' ho13 (Kd.R_lt (by (with_reducible repeat (first | apply Kd.R_alloc | apply Kd.R_drewN | apply Kd.R_drew)); exact HO1003.out))) (below_size (by repeat (first | (with_reducible first | exact HB.out | apply below_alloc | apply pw_below_drewN | apply below_drew1) | exact HB.out)))); have n2_ := Aside0.mk (below_step (by repeat (first | (with_reducible first | exact HB.out | apply below_alloc | apply pw_below_drewN | apply below_drew1) | exact HB.out)) hb); clear HO1003; clear HB; have HO1003 := n0_; have HO1006 := n1_; have HB := n2_; clear n0_ n1_ n2_; clear hb ho13; obtain ⟨Ao14, co14, eo14⟩ := Kd.R_slice HO1003.out; subst eo14; obtain ⟨Ao15, co15, eo15⟩ := Kd.R_slice HO1006.out; subst eo15) | ((with_reducible refine gate_callee (f := 33) rfl ?_); refine goesL_ (some 6) rfl rfl Tryd.func33 (by kernel_rfl) rfl #[.int .i64 12, .slice Ao14 y1001.length co14, .slice Ao15 y1004.length co15] rfl (by (try simp only [List.map_toArray, List.map_cons, List.map_nil]); first | done | rfl | (simp only [List.length_drop, List.length_take]; rfl)) ?_; (with_reducible refine (voices_Cost.calls 12 _ _ y1001 _ _ y1004 t1007 t1008 _ ?side1 ?side2 ?side3 ?side4 A1.out).mono ?_); (case side1 => repeat (first | exact (Kd.R_reads' HO1003.out).2.2 | (with_reducible refine Kd.C_alloc ?_ _) | (with_reducible refine Kd.C_drewN ?_ _) | (with_reducible refine Kd.C_drew ?_))); (case side2 => exact (Kd.R_reads' HO1003.out).2.1); (case side3 => repeat (first | exact (Kd.R_reads' HO1006.out).2.2 | (with_reducible refine Kd.C_alloc ?_ _) | (with_reducible refine Kd.C_drewN ?_ _) | (with_reducible refine Kd.C_drew ?_))); (case side4 => exact (Kd.R_reads' HO1006.out).2.1); rintro e w16 ⟨rfl, hb⟩; refine ⟨_, rfl, ?_⟩; have n0_ := Aside0.mk (Kd.R_below (by (with_reducible repeat (first | apply Kd.R_alloc | apply Kd.R_drewN | apply Kd.R_drew)); exact HO1003.out) hb); have n1_ := Aside0.mk (Kd.R_below (by (with_reducible repeat (first | apply Kd.R_alloc | apply Kd.R_drewN | apply Kd.R_drew)); exact HO1006.out) hb); have n2_ := Aside0.mk (below_step (by repeat (first | (with_reducible first | exact HB.out | apply below_alloc | apply pw_below_drewN | apply below_drew1) | exact HB.out)) hb); clear HO1003; clear HO1006; clear HB; have HO1003 := n0_; have HO1006 := n1_; have HB := n2_; clear n0_ n1_ n2_; (try clear hb); (try clear hb2); (try clear hk); (try clear hi)))
    go_ret
    exact ⟨by first | rfl | (simp [errW_none, errW_some] <;> rfl) | (simp [*, errW_none, errW_some] <;> rfl), by repeat (first | (with_reducible first | exact HB.out | apply below_alloc | apply pw_below_drewN | apply below_drew1) | exact HB.out)⟩

end Go.Proofs.YtfpnojcbhbkfaaaDoor.P
namespace Go.Proofs.YtfpnojcbhbkfaaaDoor.P
open Go.RowKit Go.Proofs.YtfpnojcbhbkfaaaDoorW.PrintWords Go.Proofs.YtfpnojcbhbkfaaaDoorW.PrintLast Go.Proofs.YtfpnojcbhbkfaaaDoorW.PrintMore
attribute [local go_sem] max2_int min2_int max_two min_two max_three min_three max_four min_four   -- for this text's walks alone
set_option linter.unusedVariables false
set_option linter.unusedSimpArgs false

/-! ### sackbutref01_Size: function 32 -/
def sackbutref01_Size.l0 : Nat → Int → Int → Option (Int)
  | 0, _, _ => none
  | k + 1, x0, x3 => if x0 > 0 then (sackbutref01_Size.l0 k (Go.bits .and .i64 x0 (wrap64 (x0 - 1))) (wrap64 (x3 + 1))) else (some x3)
def sackbutref01_Size.f (k : Nat) (a0 : Int) : Option (Int) := sackbutref01_Size.l0 k a0 0
theorem sackbutref01_Size.mono_l : ∀ k, (∀ y0 y1, LeO (sackbutref01_Size.l0 k y0 y1) (sackbutref01_Size.l0 (k + 1) y0 y1))
  | 0 => fun _ _ r h => by simp [sackbutref01_Size.l0] at h
  | k + 1 => by
    have ih0 := sackbutref01_Size.mono_l k
    · intro y0 y1
      unfold sackbutref01_Size.l0
      repeat' first
      | (with_reducible exact ih0 _ _)
      | (with_reducible exact LeO.refl _)
      | (with_reducible exact LeO.none _)
      | (with_reducible refine LeO.ite ?_ ?_)
      | (with_reducible refine LeO.bind ?_ (fun _ => ?_))
      | exact ih0 _ _
      | exact LeO.none _
      | refine LeO.ite ?_ ?_
      | refine LeO.bind ?_ (fun _ => ?_)
theorem sackbutref01_Size.mono : ∀ a0 k, LeO (sackbutref01_Size.f k a0) (sackbutref01_Size.f (k + 1) a0) := by
  intro a0 k
  have ih0 := sackbutref01_Size.mono_l k
  unfold sackbutref01_Size.f
  repeat' first
      | (with_reducible exact ih0 _ _)
      | (with_reducible exact LeO.refl _)
      | (with_reducible exact LeO.none _)
      | (with_reducible refine LeO.ite ?_ ?_)
      | (with_reducible refine LeO.bind ?_ (fun _ => ?_))
      | exact ih0 _ _
      | exact LeO.none _
      | refine LeO.ite ?_ ?_
      | refine LeO.bind ?_ (fun _ => ?_)
set_option maxHeartbeats 8000000 in
set_option maxRecDepth 100000 in
theorem sackbutref01_Size.calls (k : Nat) (a0 : Int) (r : Int) (w : World) (h : sackbutref01_Size.f k a0 = some r) :
    Calls Tryd.prog 32 #[.int .i64 a0] w fun e w' => e = .returned (.int .i64 r) ∧ Drawn0 w w' := by
  have H : (sackbutref01_Size.l0 k a0 0) = some r := h
  clear h
  have H' := Aside0.mk H
  clear H
  go_enter Tryd.func32, Tryd.ntmps32
  go_wp2
  go_loopg [0, 3] k (fun kq v0 v3 w' => ∃ (x0_1 : Int) (x3_1 : Int), v0 = .int .i64 x0_1 ∧ v3 = .int .i64 x3_1 ∧ Aside0 (sackbutref01_Size.l0 kq x0_1 x3_1 = some r) ∧ Aside0 (kq ≤ k) ∧ Drawn0 w w')
  case atStart => exact ⟨(a0), (0), (by first | rfl | (simp; done) | (simp [*]; done)), (by first | rfl | (simp; done) | (simp [*]; done)), H', ⟨Nat.le_refl _⟩, by repeat (first | exact Drawn0.refl _ | apply Drawn0.step)⟩
  case round =>
    clear H'
    obtain ⟨x0_1, x3_1, rfl, rfl, HA, HK1, ⟨m1, rfl⟩⟩ := hrel
    cases gk with
    | zero => exact absurd HA.out (by simp [sackbutref01_Size.l0])
    | succ k1 =>
      have H := HA.out
      clear HA
      simp only [sackbutref01_Size.l0] at H
      by_cases c2 : x0_1 > 0
      · rw [if_pos c2] at H
        have c2b0 : decide (0 < x0_1) = true := decide_eq_true c2
        clear c2
        have H' := Aside0.mk H
        clear H
        go_wp2
        go_roundg k1
        case measure => have := HK1.out; omega
        case rel => exact ⟨(Go.bits .and .i64 x0_1 (wrap64 (x0_1 - 1))), (wrap64 (x3_1 + 1)), (by first | rfl | (simp; done) | (simp [*]; done)), (by first | rfl | (simp; done) | (simp [*]; done)), H', ⟨by have := HK1.out; omega⟩, by repeat (first | exact Drawn0.refl _ | apply Drawn0.step)⟩
      · rw [if_neg c2] at H
        have c2b0 : decide (0 < x0_1) = false := decide_eq_false c2
        clear c2
        obtain rfl := Option.some.inj H
        go_wp2
        go_ret
        exact ⟨by first | rfl | (simp; done) | (simp [*]; done), by repeat (first | exact Drawn0.refl _ | apply Drawn0.step)⟩

end Go.Proofs.YtfpnojcbhbkfaaaDoor.P
namespace Go.Proofs.YtfpnojcbhbkfaaaDoor.P
open Go.RowKit Go.Proofs.YtfpnojcbhbkfaaaDoorW.PrintWords Go.Proofs.YtfpnojcbhbkfaaaDoorW.PrintLast Go.Proofs.YtfpnojcbhbkfaaaDoorW.PrintMore
attribute [local go_sem] max2_int min2_int max_two min_two max_three min_three max_four min_four   -- for this text's walks alone
set_option linter.unusedVariables false
set_option linter.unusedSimpArgs false

/-! ### sackbuttop_tones: function 34 -/
def sackbuttop_tones.l0 : Nat → Int → List Int → Int → Int → Option (List Int)
  | 0, _, _, _, _ => none
  | k + 1, x1, x5, x7, x8 => if x8 < x7 then (if 0 ≤ x8 then (if (Go.bits .and .i64 (shr .i64 x1 x8) 1) = 1 then (if x5.length < 17592186044416 then (sackbuttop_tones.l0 k x1 (x5 ++ [x8]) x7 (wrap64 (x8 + 1))) else (none)) else (sackbuttop_tones.l0 k x1 x5 x7 (wrap64 (x8 + 1)))) else (none)) else (some x5)
def sackbuttop_tones.f (k : Nat) (a0 : Int) (a1 : Int) : Option (List Int) := sackbuttop_tones.l0 k a1 ([] : List Int) a0 0
theorem sackbuttop_tones.mono_l : ∀ k, (∀ y0 y1 y2 y3, LeO (sackbuttop_tones.l0 k y0 y1 y2 y3) (sackbuttop_tones.l0 (k + 1) y0 y1 y2 y3))
  | 0 => fun _ _ _ _ r h => by simp [sackbuttop_tones.l0] at h
  | k + 1 => by
    have ih0 := sackbuttop_tones.mono_l k
    · intro y0 y1 y2 y3
      unfold sackbuttop_tones.l0
      repeat' first
      | (with_reducible exact ih0 _ _ _ _)
      | (with_reducible exact LeO.refl _)
      | (with_reducible exact LeO.none _)
      | (with_reducible refine LeO.ite ?_ ?_)
      | (with_reducible refine LeO.bind ?_ (fun _ => ?_))
      | exact ih0 _ _ _ _
      | exact LeO.none _
      | refine LeO.ite ?_ ?_
      | refine LeO.bind ?_ (fun _ => ?_)
theorem sackbuttop_tones.mono : ∀ a0 a1 k, LeO (sackbuttop_tones.f k a0 a1) (sackbuttop_tones.f (k + 1) a0 a1) := by
  intro a0 a1 k
  have ih0 := sackbuttop_tones.mono_l k
  unfold sackbuttop_tones.f
  repeat' first
      | (with_reducible exact ih0 _ _ _ _)
      | (with_reducible exact LeO.refl _)
      | (with_reducible exact LeO.none _)
      | (with_reducible refine LeO.ite ?_ ?_)
      | (with_reducible refine LeO.bind ?_ (fun _ => ?_))
      | exact ih0 _ _ _ _
      | exact LeO.none _
      | refine LeO.ite ?_ ?_
      | refine LeO.bind ?_ (fun _ => ?_)
set_option maxHeartbeats 8000000 in
set_option maxRecDepth 100000 in
theorem sackbuttop_tones.calls (k : Nat) (a0 : Int) (a1 : Int) (r : List Int) (w : World) (h : sackbuttop_tones.f k a0 a1 = some r) :
    Calls Tryd.prog 34 #[.int .i64 a0, .int .i64 a1] w fun e w' => ∃ v0_ : Value, e = .returned (v0_) ∧ Kd.R (Kd.int .i64) 3 w' w.heap.size (fun _ => True) v0_ r ∧ Below w.heap.size w w' := by
  have HB := Aside0.mk (Below.refl w.heap.size w)
  have H : (sackbuttop_tones.l0 k a1 ([] : List Int) a0 0) = some r := h
  clear h
  have H' := Aside0.mk H
  clear H
  go_enter Tryd.func34, Tryd.ntmps34
  go_wp2
  go_loopg [5, 8] k (fun kq v5 v8 w' => ∃ (x5_1 : List Int) (x8_1 : Int), v8 = .int .i64 x8_1 ∧ Aside0 (sackbuttop_tones.l0 kq a1 x5_1 a0 x8_1 = some r) ∧ Aside0 (kq ≤ k) ∧ Aside0 (Kd.R (Kd.int .i64) 3 w' w.heap.size (fun _ => True) v5 x5_1) ∧ Aside0 (Below w.heap.size w w'))
  case atStart => exact ⟨(([] : List Int)), (0), (by first | rfl | (simp; done) | (simp [*]; done)), H', ⟨Nat.le_refl _⟩, ⟨by first | exact Kd.R_nil _ _ _ _ _ | exact Kd.N_nil _ _ _ _ _ | exact Kd.V_nil _ _ _ _ _ | exact Kd.Q_nil _ _ _ _ _ | exact Kd.S_nil _ _ _ _ _⟩, ⟨by repeat (first | (with_reducible first | exact HB.out | apply below_alloc | apply pw_below_drewN | apply below_drew1) | exact HB.out)⟩⟩
  case round =>
    clear H'
    try clear p2
    obtain ⟨x5_1, x8_1, rfl, HA, HK1, HO_5, HB⟩ := hrel
    cases gk with
    | zero => exact absurd HA.out (by simp [sackbuttop_tones.l0])
    | succ k1 =>
      have H := HA.out
      clear HA
      simp only [sackbuttop_tones.l0] at H
      by_cases c3 : x8_1 < a0
      · rw [if_pos c3] at H
        have c3b0 : decide (x8_1 < a0) = true := decide_eq_true c3
        clear c3
        by_cases c4 : 0 ≤ x8_1
        · rw [if_pos c4] at H
          have c4b0 := eq_true c4
          have c4b1 : decide (0 ≤ x8_1) = true := decide_eq_true c4
          clear c4
          obtain ⟨ji5, hji5⟩ : ∃ j_ : Int, (shr .i64 a1 x8_1) = j_ := ⟨_, rfl⟩
          replace H : (if (Go.bits .and .i64 (ji5) 1) = 1 then (if x5_1.length < 17592186044416 then (sackbuttop_tones.l0 k1 a1 (x5_1 ++ [x8_1]) a0 (wrap64 (x8_1 + 1))) else (none)) else (sackbuttop_tones.l0 k1 a1 x5_1 a0 (wrap64 (x8_1 + 1)))) = some r := by first | (rw [hji5] at H; exact H) | (simp only [hji5] at H ⊢; exact H)
          have hji5_ : (a1 / 2 ^ min x8_1.toNat 64) = ji5 := hji5
          have hji5z : x8_1 ≤ 64 → (a1 / 2 ^ x8_1.toNat) = ji5 := shr_small hji5
          by_cases c6 : (Go.bits .and .i64 (ji5) 1) = 1
          · rw [if_pos c6] at H
            have c6b0 : ((Go.bits .and .i64 (ji5) 1) == 1) = true := beq_iff_eq.mpr c6
            have c6b1 : ((Go.bits .and .i64 (ji5) 1) != 1) = false := bne_eq_false_iff_eq.mpr c6
            clear c6
            by_cases c7 : x5_1.length < 17592186044416
            · rw [if_pos c7] at H
              have LMc7 := Aside0.mk c7
              clear c7
              obtain ⟨y1001, hy1001⟩ : ∃ y_ : List Int, y_ = (x5_1 ++ [x8_1]) := ⟨_, rfl⟩
              replace H : (sackbuttop_tones.l0 k1 a1 y1001 a0 (wrap64 (x8_1 + 1))) = some r := by first | (rw [hy1001]; with_reducible exact H) | (have H2_ := (Option.bind_some _ _).symm.trans H; rw [hy1001]; with_reducible exact H2_) | (have H2_ := (Option.bind_some _ _).symm.trans H; with_reducible exact H2_) | with_reducible exact H | (rw [hy1001]; exact H) | exact H
              have Ny1001 := Aside0.mk hy1001
              clear hy1001
              have H' := Aside0.mk H
              clear H
              go_wp2_with (first | ((with_reducible refine gate_builtin (b := .append) (xs := #[.tmp 16, .tmp 18]) rfl ?_); at_builtin; refine Kd.R_append (Kd.int .i64) (w0 := w) w.heap.size rfl (.tmp 16) (.tmp 18) 22 3 (.int .i64 0) 8 rfl Tryd.underlying22 info3 rfl (by decide) (by omega) u5 x5_1 x8_1 [.int .i64 x8_1] (fun _ => True) (fun _ => False) rfl rfl ?aP (fun _ hk => hk.elim) ?aF ?aO ?aB ?aS ?aL ?_; (case aP => exact rfl); (case aB => exact (by repeat (first | (with_reducible first | exact HB.out | apply below_alloc | apply pw_below_drewN | apply below_drew1) | exact HB.out))); (case aF => exact (fun _ _ => trivial)); (case aO => exact (by (with_reducible repeat (first | apply Kd.R_alloc | apply Kd.R_drewN | apply Kd.R_drew)); exact HO_5.out)); (case aS => exact (below_size (by repeat (first | (with_reducible first | exact HB.out | apply below_alloc | apply pw_below_drewN | apply below_drew1) | exact HB.out)))); (case aL => have := LMc7.out; omega); intro v1002 w8 ho hb hg hat; rw [← Ny1001.out] at ho; have n0_ := Aside0.mk (hb); have n1_ := Aside0.mk (ho); clear HB; clear HO_5; have HB := n0_; have HO1003 := n1_; clear n0_ n1_; clear ho hb hg hat))
              go_roundg k1
              case measure => have := HK1.out; omega
              case rel => exact ⟨(y1001), (wrap64 (x8_1 + 1)), (by first | rfl | (simp; done) | (simp [*]; done)), H', ⟨by have := HK1.out; omega⟩, ⟨by (with_reducible repeat (first | apply Kd.R_alloc | apply Kd.R_drewN | apply Kd.R_drew)); exact HO1003.out⟩, ⟨by repeat (first | (with_reducible first | exact HB.out | apply below_alloc | apply pw_below_drewN | apply below_drew1) | exact HB.out)⟩⟩
            · rw [if_neg c7] at H
              exact absurd H (by simp)
          · rw [if_neg c6] at H
            have c6b0 : ((Go.bits .and .i64 (ji5) 1) == 1) = false := beq_eq_false_iff_ne.mpr c6
            have c6b1 : ((Go.bits .and .i64 (ji5) 1) != 1) = true := bne_iff_ne.mpr c6
            have H' := Aside0.mk H
            clear H
            go_wp2
            go_roundg k1
            case measure => have := HK1.out; omega
            case rel => exact ⟨(x5_1), (wrap64 (x8_1 + 1)), (by first | rfl | (simp; done) | (simp [*]; done)), H', ⟨by have := HK1.out; omega⟩, ⟨by (with_reducible repeat (first | apply Kd.R_alloc | apply Kd.R_drewN | apply Kd.R_drew)); exact HO_5.out⟩, ⟨by repeat (first | (with_reducible first | exact HB.out | apply below_alloc | apply pw_below_drewN | apply below_drew1) | exact HB.out)⟩⟩
        · rw [if_neg c4] at H
          exact absurd H (by simp)
      · rw [if_neg c3] at H
        have c3b0 : decide (x8_1 < a0) = false := decide_eq_false c3
        clear c3
        obtain rfl := Option.some.inj H
        go_wp2
        go_ret
        exact ⟨_, by first | rfl | (simp [errW_none, errW_some] <;> rfl) | (simp [*, errW_none, errW_some] <;> rfl), by (with_reducible repeat (first | apply Kd.R_alloc | apply Kd.R_drewN | apply Kd.R_drew)); exact HO_5.out, by repeat (first | (with_reducible first | exact HB.out | apply below_alloc | apply pw_below_drewN | apply below_drew1) | exact HB.out)⟩

end Go.Proofs.YtfpnojcbhbkfaaaDoor.P
namespace Go.Proofs.YtfpnojcbhbkfaaaDoor.P
open Go.RowKit Go.Proofs.YtfpnojcbhbkfaaaDoorW.PrintWords Go.Proofs.YtfpnojcbhbkfaaaDoorW.PrintLast Go.Proofs.YtfpnojcbhbkfaaaDoorW.PrintMore
attribute [local go_sem] max2_int min2_int max_two min_two max_three min_three max_four min_four   -- for this text's walks alone
set_option linter.unusedVariables false
set_option linter.unusedSimpArgs false

/-! ### sackbutref01_Valid: function 37 -/
def sackbutref01_Valid.f (a0 : Int) (a1 : Int) : Option (Bool) := if a0 ≥ 2 then (if a0 ≤ 16 then (if a1 ≥ 0 then (if 0 ≤ a0 then (some (decide (a1 < (shl .i64 1 a0)))) else (none)) else (some false)) else (some false)) else (some false)
set_option maxHeartbeats 8000000 in
set_option maxRecDepth 100000 in
theorem sackbutref01_Valid.calls (a0 : Int) (a1 : Int) (r : Bool) (w : World) (h : sackbutref01_Valid.f a0 a1 = some r) :
    Calls Tryd.prog 37 #[.int .i64 a0, .int .i64 a1] w fun e w' => e = .returned (.bool r) ∧ Drawn0 w w' := by
  have H : (if a0 ≥ 2 then (if a0 ≤ 16 then (if a1 ≥ 0 then (if 0 ≤ a0 then (some (decide (a1 < (shl .i64 1 a0)))) else (none)) else (some false)) else (some false)) else (some false)) = some r := h
  clear h
  by_cases c3 : a0 ≥ 2
  · rw [if_pos c3] at H
    have c3b0 : decide (2 ≤ a0) = true := decide_eq_true c3
    clear c3
    by_cases c4 : a0 ≤ 16
    · rw [if_pos c4] at H
      have c4b0 : decide (a0 ≤ 16) = true := decide_eq_true c4
      clear c4
      by_cases c5 : a1 ≥ 0
      · rw [if_pos c5] at H
        have c5b0 : decide (0 ≤ a1) = true := decide_eq_true c5
        clear c5
        by_cases c6 : 0 ≤ a0
        · rw [if_pos c6] at H
          have c6b0 := eq_true c6
          have c6b1 : decide (0 ≤ a0) = true := decide_eq_true c6
          clear c6
          obtain ⟨ji7, hji7⟩ : ∃ j_ : Int, (shl .i64 1 a0) = j_ := ⟨_, rfl⟩
          replace H : (some (decide (a1 < (ji7)))) = some r := by first | (rw [hji7] at H; exact H) | (simp only [hji7] at H ⊢; exact H)
          have hji7_ : (IntKind.i64.wrap (1 * 2 ^ min a0.toNat 64)) = ji7 := hji7
          have hji7z : a0 ≤ 64 → (IntKind.i64.wrap (1 * 2 ^ a0.toNat)) = ji7 := shl_small hji7
          have hji7u : (IntKind.i64.wrap (2 ^ min a0.toNat 64)) = ji7 := by have h_ := hji7_; rw [Int.one_mul] at h_; exact h_
          have hji7v : a0 ≤ 64 → (IntKind.i64.wrap (2 ^ a0.toNat)) = ji7 := fun hle_ => by have h_ := hji7z hle_; rw [Int.one_mul] at h_; exact h_
          have hji7y : (wrap64 (1 * 2 ^ min a0.toNat 64)) = ji7 := (i64_w _).symm.trans hji7_
          have hji7x : a0 ≤ 64 → (wrap64 (1 * 2 ^ a0.toNat)) = ji7 := fun h_ => (i64_w _).symm.trans (hji7z h_)
          obtain rfl := Option.some.inj H
          go_enter Tryd.func37, Tryd.ntmps37
          go_wp2
          go_ret
          exact ⟨by first | rfl | (simp; done) | (simp only [← hji7] <;> (first | rfl | simp)) | (simp [*]; done), by repeat (first | exact Drawn0.refl _ | apply Drawn0.step)⟩
        · rw [if_neg c6] at H
          exact absurd H (by simp)
      · rw [if_neg c5] at H
        have c5b0 : decide (0 ≤ a1) = false := decide_eq_false c5
        clear c5
        obtain rfl := Option.some.inj H
        go_enter Tryd.func37, Tryd.ntmps37
        go_wp2
        go_ret
        exact ⟨by first | rfl | (simp; done) | (simp [*]; done), by repeat (first | exact Drawn0.refl _ | apply Drawn0.step)⟩
    · rw [if_neg c4] at H
      have c4b0 : decide (a0 ≤ 16) = false := decide_eq_false c4
      clear c4
      obtain rfl := Option.some.inj H
      go_enter Tryd.func37, Tryd.ntmps37
      go_wp2
      go_ret
      exact ⟨by first | rfl | (simp; done) | (simp [*]; done), by repeat (first | exact Drawn0.refl _ | apply Drawn0.step)⟩
  · rw [if_neg c3] at H
    have c3b0 : decide (2 ≤ a0) = false := decide_eq_false c3
    clear c3
    obtain rfl := Option.some.inj H
    go_enter Tryd.func37, Tryd.ntmps37
    go_wp2
    go_ret
    exact ⟨by first | rfl | (simp; done) | (simp [*]; done), by repeat (first | exact Drawn0.refl _ | apply Drawn0.step)⟩

end Go.Proofs.YtfpnojcbhbkfaaaDoor.P
namespace Go.Proofs.YtfpnojcbhbkfaaaDoor.P
open Go.RowKit Go.Proofs.YtfpnojcbhbkfaaaDoorW.PrintWords Go.Proofs.YtfpnojcbhbkfaaaDoorW.PrintLast Go.Proofs.YtfpnojcbhbkfaaaDoorW.PrintMore
attribute [local go_sem] max2_int min2_int max_two min_two max_three min_three max_four min_four   -- for this text's walks alone
set_option linter.unusedVariables false
set_option linter.unusedSimpArgs false

/-! slices.IndexFunc and ContainsFunc at ints, whatever the predicate -/
def idxP (p : Int → Bool) (l : List Int) : Int := if l.any p then (l.findIdx p : Int) else -1
/-- Called with a number in any later world, the function value answers as p does; it only draws. -/
def GivesBool (g : Nat) (lb : Array Value) (p : Int → Bool) (w : World) : Prop :=
  ∀ (W : World) (x : Int), Below w.heap.size w W → Calls Tryd.prog g (#[.int .i64 x] ++ lb) W fun e w' => e = .returned (.bool (p x)) ∧ Drawn0 W w'
set_option maxHeartbeats 2000000 in
set_option maxRecDepth 100000 in
theorem IndexFunc_calls (p : Int → Bool) (g : Nat) (lb : Array Value) (eg : ∀ args w, (callFunc g args).run Tryd.prog w = .ok (.enter g args) w) (A0 : Option Addr) (c0 : Nat) (l0 : List Int) (w : World)
    (hr0 : Kd.C (Kd.int .i64) w A0 l0.length l0) (hp : GivesBool g lb p w) (hm : l0.length ≤ 9223372036854775807) :
    Calls Tryd.prog 117 #[.slice A0 l0.length c0, .func (.func g) #[] lb] w fun e w' => e = .returned (.int .i64 (idxP p l0)) ∧ Drawn0 w w' := by
  have HR := Aside0.mk hr0
  have hpAt : ∀ (x : Int) (q : Nat), Calls Tryd.prog g (#[.int .i64 x] ++ lb) (w.drewN q) fun e w' => e = .returned (.bool (p x)) ∧ Drawn0 (w.drewN q) w' := fun x q => hp _ x (pw_below_drewN (Below.refl _ w) q)
  have HP := Aside0.mk hpAt
  clear hp hpAt hr0
  go_enter Tryd.func117, Tryd.ntmps117
  go_wp2
  go_loopg [8] l0.length (fun gg s8 wr => ∃ (kk q : Nat), s8 = .int .i64 kk ∧ wr = w.drewN q ∧ Aside0 (kk + gg = l0.length) ∧ Aside0 ((l0.take kk).any p = false))
  case atStart => exact ⟨0, 0, rfl, rfl, ⟨by omega⟩, ⟨by simp⟩⟩
  case round =>
    obtain ⟨kk, q, rfl, rfl, HK, HA⟩ := hrel
    by_cases hlt : kk < l0.length
    · have hltz : (kk : Int) < (l0.length : Int) := by omega
      obtain ⟨ad, ead, hcell0⟩ := Kd.at_int HR.out (kk : Int) (by omega) hltz
      rw [rd_get hlt] at hcell0
      rw [Int.toNat_natCast] at hcell0
      cases ead
      generalize hy : l0[kk] = y at hcell0
      have Hy := Aside0.mk hy
      clear hy
      have hcall := HP.out y
      have hsplit : l0 = l0.take kk ++ y :: l0.drop (kk + 1) := by
        rw [← Hy.out]
        conv => lhs; rw [← List.take_append_drop kk l0]
        rw [List.drop_eq_getElem_cons hlt]
      have HS := Aside0.mk hsplit
      clear hsplit
      cases hq : p y with
      | true =>
        have Hq := Aside0.mk hq
        rw [hq] at hcall
        clear hq
        go_wp2_with (refine (hcall _).mono ?_; rintro e w' ⟨rfl, ⟨q', rfl⟩⟩)
        go_ret
        have h1 : l0.any p = true := by rw [HS.out]; simp [Hq.out]
        have h2 : l0.findIdx p = kk := by
          rw [HS.out, List.findIdx_append]
          have h3 : (l0.take kk).findIdx p = (l0.take kk).length := List.findIdx_eq_length.2 (fun x hx => by
            have := HA.out; rw [List.any_eq_false] at this; simpa using this x hx)
          have h4 : (l0.take kk).length = kk := by rw [List.length_take]; omega
          rw [h3, if_neg (by omega), List.findIdx_cons, Hq.out, h4]
          simp
        refine ⟨?_, ⟨_, rfl⟩⟩
        unfold idxP
        rw [h1, if_pos rfl, h2]; rfl
      | false =>
        have Hq := Aside0.mk hq
        rw [hq] at hcall
        clear hq
        go_wp2_with (refine (hcall _).mono ?_; rintro e w' ⟨rfl, ⟨q', rfl⟩⟩)
        go_roundg (gk - 1)
        case measure => have := HK.out; omega
        case rel =>
          refine ⟨kk + 1, _, by go_num, rfl, ⟨by have := HK.out; omega⟩, ⟨?_⟩⟩
          rw [List.take_succ_eq_append_getElem hlt, List.any_append, HA.out, Hy.out]
          simp [Hq.out]
    · have hltz : ¬ (kk : Int) < (l0.length : Int) := by omega
      have h0 : l0.any p = false := by
        have h := HA.out
        rwa [List.take_of_length_le (by omega)] at h
      have H0 := Aside0.mk h0
      clear h0
      go_wp2
      go_ret
      refine ⟨?_, ⟨_, rfl⟩⟩
      unfold idxP
      rw [H0.out, if_neg (by simp)]; rfl
set_option maxHeartbeats 1000000 in
theorem ContainsFunc_calls (p : Int → Bool) (g : Nat) (lb : Array Value) (eg : ∀ args w, (callFunc g args).run Tryd.prog w = .ok (.enter g args) w) (A0 : Option Addr) (c0 : Nat) (l0 : List Int) (w : World)
    (hr0 : Kd.C (Kd.int .i64) w A0 l0.length l0) (hp : GivesBool g lb p w) (hm : l0.length ≤ 9223372036854775807) :
    Calls Tryd.prog 82 #[.slice A0 l0.length c0, .func (.func g) #[] lb] w fun e w' => e = .returned (.bool (l0.any p)) ∧ Drawn0 w w' := by
  have HC := Aside0.mk (IndexFunc_calls p g lb eg A0 c0 l0 w hr0 hp hm)
  clear hp hr0
  go_enter Tryd.func82, Tryd.ntmps82
  cases hq : l0.any p with
  | true =>
    have Hq := Aside0.mk hq
    have hc := HC.out
    rw [show idxP p l0 = ((l0.findIdx p : Nat) : Int) by unfold idxP; rw [hq, if_pos rfl]] at hc
    have hpos : (0 : Int) ≤ ((l0.findIdx p : Nat) : Int) := by omega
    clear hq
    go_wp2_with (go_at_call 117; refine hc.mono ?_; rintro e w' ⟨rfl, ⟨q', rfl⟩⟩)
    go_ret
    exact ⟨by simp, ⟨_, rfl⟩⟩
  | false =>
    have Hq := Aside0.mk hq
    have hc := HC.out
    rw [show idxP p l0 = -1 by unfold idxP; rw [hq, if_neg (by simp)]] at hc
    clear hq
    go_wp2_with (go_at_call 117; refine hc.mono ?_; rintro e w' ⟨rfl, ⟨q', rfl⟩⟩)
    go_ret
    exact ⟨by simp, ⟨_, rfl⟩⟩

end Go.Proofs.YtfpnojcbhbkfaaaDoor.P
namespace Go.Proofs.YtfpnojcbhbkfaaaDoor.P
open Go.RowKit Go.Proofs.YtfpnojcbhbkfaaaDoorW.PrintWords Go.Proofs.YtfpnojcbhbkfaaaDoorW.PrintLast Go.Proofs.YtfpnojcbhbkfaaaDoorW.PrintMore
attribute [local go_sem] max2_int min2_int max_two min_two max_three min_three max_four min_four   -- for this text's walks alone
set_option linter.unusedVariables false
set_option linter.unusedSimpArgs false

def badChord (n : Int) (c : Int) : Bool := decide (c < 0) || decide (c ≥ shl .i64 1 n)
def chords_circle_valid.f (a0 : Int) (l1 : List Int) : Option Bool := if a0 ≥ 2 then (if a0 ≤ 16 then (if l1.length < 17592186044416 then some (!(l1.any (badChord a0))) else none) else some false) else some false
set_option maxHeartbeats 1000000 in
theorem chords_valid1 (n x : Int) (B : Nat) (W : World) (h2 : 2 ≤ n) (h16 : n ≤ 16) (hc : W.cell? ⟨B, 0, none⟩ = some (.int .i64 n)) :
    Calls Tryd.prog 83 #[.int .i64 x, .pointer (some ⟨B, 0, none⟩)] W fun e w' => e = .returned (.bool (badChord n x)) ∧ Drawn0 W w' := by
  obtain ⟨j, hj⟩ : ∃ j : Int, shl .i64 1 n = j := ⟨_, rfl⟩
  have e1 : IntKind.i64.wrap (2 ^ n.toNat) = j := by rw [← hj]; unfold shl; rw [Nat.min_eq_left (by show n.toNat ≤ 64; omega), Int.one_mul]
  have e2 : wrap64 (2 ^ n.toNat) = j := by rw [← e1]; exact (i64_w _).symm
  have e3 : IntKind.i64.wrap (1 * 2 ^ n.toNat) = j := by rw [Int.one_mul]; exact e1
  have n0 : (0 : Int) ≤ n := by omega
  have n64 : n ≤ 64 := by omega
  have hn : n.toNat ≤ 64 := by omega
  by_cases c1 : x < 0
  · have c1b : decide (x < 0) = true := decide_eq_true c1
    have hf : badChord n x = true := by unfold badChord; rw [c1b]; rfl
    have HF := Aside0.mk hf
    clear hf hj
    go_enter Tryd.func83, Tryd.ntmps83
    go_wp2
    go_ret
    exact ⟨by rw [HF.out]; rfl, Drawn0.refl _⟩
  · have c1b : decide (x < 0) = false := decide_eq_false c1
    have hf : badChord n x = decide (x ≥ j) := by unfold badChord; rw [c1b, hj]; rfl
    have HF := Aside0.mk hf
    clear hf hj
    go_enter Tryd.func83, Tryd.ntmps83
    go_wp2
    go_ret
    exact ⟨by rw [HF.out]; rfl, Drawn0.refl _⟩
set_option maxHeartbeats 2000000 in
theorem chords_circle_valid.calls (a0 : Int) (A1 : Option Addr) (c1 : Nat) (l1 : List Int) (r : Bool) (w : World) (hr1 : Kd.C (Kd.int .i64) w A1 l1.length l1) (hc1 : l1.length ≤ c1) (h : chords_circle_valid.f a0 l1 = some r) :
    Calls Tryd.prog 49 #[.int .i64 a0, .slice A1 l1.length c1] w fun e w' => e = .returned (.bool r) ∧ Below w.heap.size w w' := by
  have HR := Aside0.mk hr1
  clear hr1
  unfold chords_circle_valid.f at h
  by_cases h2 : a0 ≥ 2
  · rw [if_pos h2] at h
    by_cases h16 : a0 ≤ 16
    · rw [if_pos h16] at h
      have hl : l1.length < 17592186044416 := by
        rcases Nat.lt_or_ge l1.length 17592186044416 with hl | hl
        · exact hl
        · rw [if_neg (by omega)] at h; cases h
      rw [if_pos hl] at h
      have hf := Option.some.inj h
      clear h
      have d2 : decide (a0 ≥ 2) = true := decide_eq_true h2
      have d2' : decide (2 ≤ a0) = true := decide_eq_true h2
      have d16 : decide (a0 ≤ 16) = true := decide_eq_true h16
      have HP : GivesBool 83 #[.pointer (some ⟨w.heap.size, 0, none⟩)] (badChord a0) (w.alloc (.cells #[.int .i64 a0] 71)) := fun W x hb => by
        have hc : W.cell? ⟨w.heap.size, 0, none⟩ = some (.int .i64 a0) := (hb.cell (p := ⟨w.heap.size, 0, none⟩) (by simp)).trans (by simp)
        exact chords_valid1 a0 x w.heap.size W (by omega) h16 hc
      have eg : ∀ args w, (callFunc 83 args).run Tryd.prog w = .ok (.enter 83 args) w := enters_of Tryd.func83 (by kernel_rfl) rfl
      have HC := ContainsFunc_calls (badChord a0) 83 #[.pointer (some ⟨w.heap.size, 0, none⟩)] eg A1 c1 l1 (w.alloc (.cells #[.int .i64 a0] 71)) (Kd.C_alloc HR.out _) HP (by omega)
      have HCa := Aside0.mk HC
      clear HC HP hl
      cases hq : l1.any (badChord a0) with
      | true =>
        rw [hq] at hf
        have HCb := HCa.out
        rw [hq] at HCb
        clear hq HCa
        subst hf
        go_enter Tryd.func49, Tryd.ntmps49
        go_wp2_with (go_at_call 82; refine HCb.mono ?_; rintro e w' ⟨rfl, ⟨q', rfl⟩⟩)
        go_ret
        exact ⟨by simp, pw_below_drewN (below_alloc (Below.refl _ _) _) _⟩
      | false =>
        rw [hq] at hf
        have HCb := HCa.out
        rw [hq] at HCb
        clear hq HCa
        subst hf
        go_enter Tryd.func49, Tryd.ntmps49
        go_wp2_with (go_at_call 82; refine HCb.mono ?_; rintro e w' ⟨rfl, ⟨q', rfl⟩⟩)
        go_ret
        exact ⟨by simp, pw_below_drewN (below_alloc (Below.refl _ _) _) _⟩
    · rw [if_neg h16] at h
      have hf := Option.some.inj h
      subst hf
      have d2' : decide (2 ≤ a0) = true := decide_eq_true h2
      have d16 : decide (a0 ≤ 16) = false := decide_eq_false h16
      clear h
      go_enter Tryd.func49, Tryd.ntmps49
      go_wp2
      go_ret
      exact ⟨rfl, below_alloc (Below.refl _ _) _⟩
  · rw [if_neg h2] at h
    have hf := Option.some.inj h
    subst hf
    have d2' : decide (2 ≤ a0) = false := decide_eq_false h2
    clear h
    go_enter Tryd.func49, Tryd.ntmps49
    go_wp2
    go_ret
    exact ⟨rfl, below_alloc (Below.refl _ _) _⟩

end Go.Proofs.YtfpnojcbhbkfaaaDoor.P
namespace Go.Proofs.YtfpnojcbhbkfaaaDoor.P
open Go.RowKit Go.Proofs.YtfpnojcbhbkfaaaDoorW.PrintWords Go.Proofs.YtfpnojcbhbkfaaaDoorW.PrintLast Go.Proofs.YtfpnojcbhbkfaaaDoorW.PrintMore
attribute [local go_sem] max2_int min2_int max_two min_two max_three min_three max_four min_four   -- for this text's walks alone
set_option linter.unusedVariables false
set_option linter.unusedSimpArgs false

/-! slices.Compact at ints: the kit's contract, laid at this seat (the two texts below are what the kit's laying command says) -/
open Go.Shelf in
def compact_l_ren : Go.Shelf.Ren := ⟨fun | 43 => 137 | n => n, fun | 22 => 22 | 23 => 3 | 3 => 3 | 4 => 4 | 0 => 0 | n => n, fun | n => n⟩
set_option maxRecDepth 100000 in
open Go.Shelf in
theorem compact_l : Go.Proofs.SlLaysN.n43 Tryd.prog compact_l_ren := { mixed := by kernel_rfl, f43 := ⟨Tryd.f137.name, by decide, Tryd.func137.trans (congrArg some (by kernel_rfl))⟩, t0 := Tryd.underlying0, a0 := Tryd.isAgg0, z0 := Tryd.sizeOf0, v0 := Tryd.zeroValue0, t3 := Tryd.underlying3, a3 := Tryd.isAgg3, z3 := Tryd.sizeOf3, v3 := Tryd.zeroValue3, t4 := Tryd.underlying4, a4 := Tryd.isAgg4, z4 := Tryd.sizeOf4, v4 := Tryd.zeroValue4, t22 := Tryd.underlying22, a22 := Tryd.isAgg22, z22 := Tryd.sizeOf22, v22 := Tryd.zeroValue22, t23 := Tryd.underlying3, a23 := Tryd.isAgg3, z23 := Tryd.sizeOf3, v23 := Tryd.zeroValue3, i23 := by kernel_rfl }

/-- what is kept where neighbours that are the same become one -/
def dedup : List Int → List Int
  | x :: y :: r => if x = y then dedup (y :: r) else x :: dedup (y :: r)
  | l => l
def slices_Compact_int_int.f (l0 : List Int) : Option (List Int) := if l0.length < 17592186044416 then some (Lib.compact l0) else none
theorem own_holds {w : World} {base : Nat} {e : TypeId} {u : Value} {l0 : List Int} {g cap : Nat} {cur : Array Value} (hgg : w.heap[g]? = some (.cells cur e (0, 0))) (hnc : l0.length ≤ cap) (hcs : cur.size = cap * 1) (htk : cur.toList.take (l0.length * 1) = l0.map (Value.int .i64)) : Go.Sort.Holds (Value.int .i64) w g 0 l0.toArray := by
  intro j hj
  have hj' : j < l0.length := by simpa using hj
  have hjc : j < cur.size := by omega
  have hcell : cur.toList[j]? = some (.int .i64 l0[j]) := by
    have := congrArg (fun z => z[j]?) htk
    simp only [Nat.mul_one, List.getElem?_take, if_pos hj', List.getElem?_map, List.getElem?_eq_getElem hj', Option.map_some] at this
    exact this
  constructor
  · unfold World.cell?
    simp only [hgg, Nat.zero_add]
    rw [← Array.getElem?_toList, hcell]
    simp [hj']
  · unfold World.frozen?
    simp only [hgg]; simp
open Go.Sort in
theorem slices_Compact_int_int.calls (P0_ : Nat → Prop) (u9000_ : Value) (l0 : List Int) (r : List Int) (w0 w : World) (hB : Below w0.heap.size w0 w) (ho0 : Kd.R (Kd.int .i64) 3 w w0.heap.size P0_ u9000_ l0) (h : slices_Compact_int_int.f l0 = some r) :
    Calls Tryd.prog 137 #[u9000_] w fun e w' => ∃ v1_ : Value, e = .returned v1_ ∧ Kd.R (Kd.int .i64) 3 w' w0.heap.size (fun k_ => (P0_ k_ ∨ w.heap.size ≤ k_)) v1_ r ∧ Below w0.heap.size w0 w' ∧ Kept w w' (fun k_ => P0_ k_) := by
  unfold slices_Compact_int_int.f at h
  by_cases hl : l0.length < 17592186044416
  · rw [if_pos hl] at h
    obtain rfl := Option.some.inj h
    have hown' : w.ownsRow w0.heap.size 3 1 u9000_ l0.length (l0.map (Value.int .i64)) := Kd.own_of_R ho0
    obtain ⟨hok, hown⟩ := ho0
    rcases hown'.2 with ⟨rfl, hn⟩ | ⟨g, cap, cur, rfl, hbg, hgg, hnc, hcm, hcs, htk⟩
    · have hz : l0 = [] := List.eq_nil_of_length_eq_zero hn
      subst hz
      have hc := AnyG.slices_Compact_int_empty compact_l none 0 w
      refine Calls.mono (show Calls Tryd.prog 137 _ _ _ from hc) ?_
      rintro e w' ⟨rfl, rfl⟩
      exact ⟨_, rfl, Kd.R_nil _ _ _ _ _, hB, Kept.refl _ _⟩
    · have hH := own_holds (base := w0.heap.size) (u := .nilFunc) hgg hnc hcs htk
      have hc := AnyG.slices_Compact_int compact_l g 0 cap l0 w hH (by omega) hnc
      refine Calls.mono (show Calls Tryd.prog 137 _ _ _ from hc) ?_
      rintro e w' ⟨rfl, n, hw⟩
      have hle : (Lib.compact l0).length ≤ l0.length := by unfold Lib.compact Lib.compactUpTo; rw [List.length_map]; exact Nat.le_trans (List.length_filter_le _ _) (by simp)
      have hsz : (Lib.compact l0 ++ List.replicate (l0.length - (Lib.compact l0).length) 0).toArray.size = l0.length := by simp; omega
      have hw2 : w' = grow (putRow (Value.int .i64) (Go.Sort.ahead w n) g 0 (Lib.compact l0 ++ List.replicate (l0.length - (Lib.compact l0).length) 0).toArray) #[] := by
        rw [hw]; unfold grow; rw [Array.append_empty]
      obtain ⟨hg, hb⟩ := sorted_world (Value.int .i64) w n g _ #[] cur _ _ hgg w' hw2
      have hP : P0_ g := hok g rfl
      refine ⟨_, rfl, ⟨fun k hk => .inl (hok k hk), ?_⟩, hB.grown hg hB.size (fun k e => by cases e; exact hbg), ⟨hg.size, fun i hi hn => hg.block i hi (fun e => by cases e; exact hn hP)⟩⟩
      have hr : w'.ownsRow w0.heap.size 3 1 (.slice (some ⟨g, 0, none⟩) (Lib.compact l0).length cap) (Lib.compact l0).length ((Lib.compact l0).map (Value.int .i64)) := by
        refine ⟨by simp, .inr ⟨g, cap, _, rfl, hbg, hb, by omega, hcm, by simp [putCells, hcs], ?_⟩⟩
        have := putCells_take (Value.int .i64) (Lib.compact l0 ++ List.replicate (l0.length - (Lib.compact l0).length) 0).toArray cur (by rw [hsz]; omega)
        rw [hsz] at this
        have h2 := congrArg (fun z => z.take (Lib.compact l0).length) this
        simp only [List.take_take, Nat.min_eq_left hle] at h2
        rw [Nat.mul_one, h2]
        simp
      exact (Kd.R_of_own (h1 := fun _ => rfl) hr (fun k hk => .inl (hok k hk)) (ok := fun k_ => (P0_ k_ ∨ w.heap.size ≤ k_))).2
  · rw [if_neg hl] at h; cases h

end Go.Proofs.YtfpnojcbhbkfaaaDoor.P
namespace Go.Proofs.YtfpnojcbhbkfaaaDoor.P
open Go.RowKit Go.Proofs.YtfpnojcbhbkfaaaDoorW.PrintWords Go.Proofs.YtfpnojcbhbkfaaaDoorW.PrintLast Go.Proofs.YtfpnojcbhbkfaaaDoorW.PrintMore
attribute [local go_sem] max2_int min2_int max_two min_two max_three min_three max_four min_four   -- for this text's walks alone
set_option linter.unusedVariables false
set_option linter.unusedSimpArgs false

/-! ### chords_circle_move: function 51 -/
def chords_circle_move.f (a0 : Int) (a1 : Int) (a2 : Int) : Option (Int) := if a0 = 0 then (none) else (if 0 ≤ (Int.tmod (wrap64 ((Int.tmod a2 a0) + a0)) a0) then (if 0 ≤ (wrap64 (a0 - (Int.tmod (wrap64 ((Int.tmod a2 a0) + a0)) a0))) then (if 0 ≤ a0 then (some (Go.bits .and .i64 (Go.bits .or .i64 (shl .i64 a1 (Int.tmod (wrap64 ((Int.tmod a2 a0) + a0)) a0)) (shr .i64 a1 (wrap64 (a0 - (Int.tmod (wrap64 ((Int.tmod a2 a0) + a0)) a0))))) (wrap64 ((shl .i64 1 a0) - 1)))) else (none)) else (none)) else (none))
set_option maxHeartbeats 8000000 in
set_option maxRecDepth 100000 in
theorem chords_circle_move.calls (a0 : Int) (a1 : Int) (a2 : Int) (r : Int) (w : World) (h : chords_circle_move.f a0 a1 a2 = some r) :
    Calls Tryd.prog 51 #[.int .i64 a0, .int .i64 a1, .int .i64 a2] w fun e w' => e = .returned (.int .i64 r) ∧ Drawn0 w w' := by
  have H : (if a0 = 0 then (none) else (if 0 ≤ (Int.tmod (wrap64 ((Int.tmod a2 a0) + a0)) a0) then (if 0 ≤ (wrap64 (a0 - (Int.tmod (wrap64 ((Int.tmod a2 a0) + a0)) a0))) then (if 0 ≤ a0 then (some (Go.bits .and .i64 (Go.bits .or .i64 (shl .i64 a1 (Int.tmod (wrap64 ((Int.tmod a2 a0) + a0)) a0)) (shr .i64 a1 (wrap64 (a0 - (Int.tmod (wrap64 ((Int.tmod a2 a0) + a0)) a0))))) (wrap64 ((shl .i64 1 a0) - 1)))) else (none)) else (none)) else (none))) = some r := h
  clear h
  by_cases c4 : a0 = 0
  · rw [if_pos c4] at H
    exact absurd H (by simp)
  · rw [if_neg c4] at H
    have c4b0 : (a0 == 0) = false := beq_eq_false_iff_ne.mpr c4
    have c4b1 : (a0 != 0) = true := bne_iff_ne.mpr c4
    obtain ⟨ji5, hji5⟩ : ∃ j_ : Int, (Int.tmod (wrap64 ((Int.tmod a2 a0) + a0)) a0) = j_ := ⟨_, rfl⟩
    replace H : (if 0 ≤ (ji5) then (if 0 ≤ (wrap64 (a0 - (ji5))) then (if 0 ≤ a0 then (some (Go.bits .and .i64 (Go.bits .or .i64 (shl .i64 a1 (ji5)) (shr .i64 a1 (wrap64 (a0 - (ji5))))) (wrap64 ((shl .i64 1 a0) - 1)))) else (none)) else (none)) else (none)) = some r := by first | (rw [hji5] at H; exact H) | (simp only [hji5] at H ⊢; exact H)
    by_cases c6 : 0 ≤ (ji5)
    · rw [if_pos c6] at H
      have c6b0 := eq_true c6
      have c6b1 : decide (0 ≤ (ji5)) = true := decide_eq_true c6
      clear c6
      obtain ⟨ji7, hji7⟩ : ∃ j_ : Int, (shl .i64 a1 (ji5)) = j_ := ⟨_, rfl⟩
      replace H : (if 0 ≤ (wrap64 (a0 - (ji5))) then (if 0 ≤ a0 then (some (Go.bits .and .i64 (Go.bits .or .i64 (ji7) (shr .i64 a1 (wrap64 (a0 - (ji5))))) (wrap64 ((shl .i64 1 a0) - 1)))) else (none)) else (none)) = some r := by first | (rw [hji7] at H; exact H) | (simp only [hji7] at H ⊢; exact H)
      have hji7_ : (IntKind.i64.wrap (a1 * 2 ^ min (ji5).toNat 64)) = ji7 := hji7
      have hji7z : (ji5) ≤ 64 → (IntKind.i64.wrap (a1 * 2 ^ (ji5).toNat)) = ji7 := shl_small hji7
      have hji7y : (wrap64 (a1 * 2 ^ min (ji5).toNat 64)) = ji7 := (i64_w _).symm.trans hji7_
      have hji7x : (ji5) ≤ 64 → (wrap64 (a1 * 2 ^ (ji5).toNat)) = ji7 := fun h_ => (i64_w _).symm.trans (hji7z h_)
      obtain ⟨ji8, hji8⟩ : ∃ j_ : Int, (wrap64 (a0 - (ji5))) = j_ := ⟨_, rfl⟩
      replace H : (if 0 ≤ (ji8) then (if 0 ≤ a0 then (some (Go.bits .and .i64 (Go.bits .or .i64 (ji7) (shr .i64 a1 (ji8))) (wrap64 ((shl .i64 1 a0) - 1)))) else (none)) else (none)) = some r := by first | (rw [hji8] at H; exact H) | (simp only [hji8] at H ⊢; exact H)
      have hji8w : (IntKind.i64.wrap (a0 - (ji5))) = ji8 := (i64_w _).trans hji8
      by_cases c9 : 0 ≤ (ji8)
      · rw [if_pos c9] at H
        have c9b0 := eq_true c9
        have c9b1 : decide (0 ≤ (ji8)) = true := decide_eq_true c9
        clear c9
        obtain ⟨ji10, hji10⟩ : ∃ j_ : Int, (shr .i64 a1 (ji8)) = j_ := ⟨_, rfl⟩
        replace H : (if 0 ≤ a0 then (some (Go.bits .and .i64 (Go.bits .or .i64 (ji7) (ji10)) (wrap64 ((shl .i64 1 a0) - 1)))) else (none)) = some r := by first | (rw [hji10] at H; exact H) | (simp only [hji10] at H ⊢; exact H)
        have hji10_ : (a1 / 2 ^ min (ji8).toNat 64) = ji10 := hji10
        have hji10z : (ji8) ≤ 64 → (a1 / 2 ^ (ji8).toNat) = ji10 := shr_small hji10
        by_cases c11 : 0 ≤ a0
        · rw [if_pos c11] at H
          have c11b0 := eq_true c11
          have c11b1 : decide (0 ≤ a0) = true := decide_eq_true c11
          clear c11
          obtain ⟨ji12, hji12⟩ : ∃ j_ : Int, (shl .i64 1 a0) = j_ := ⟨_, rfl⟩
          replace H : (some (Go.bits .and .i64 (Go.bits .or .i64 (ji7) (ji10)) (wrap64 ((ji12) - 1)))) = some r := by first | (rw [hji12] at H; exact H) | (simp only [hji12] at H ⊢; exact H)
          have hji12_ : (IntKind.i64.wrap (1 * 2 ^ min a0.toNat 64)) = ji12 := hji12
          have hji12z : a0 ≤ 64 → (IntKind.i64.wrap (1 * 2 ^ a0.toNat)) = ji12 := shl_small hji12
          have hji12u : (IntKind.i64.wrap (2 ^ min a0.toNat 64)) = ji12 := by have h_ := hji12_; rw [Int.one_mul] at h_; exact h_
          have hji12v : a0 ≤ 64 → (IntKind.i64.wrap (2 ^ a0.toNat)) = ji12 := fun hle_ => by have h_ := hji12z hle_; rw [Int.one_mul] at h_; exact h_
          have hji12y : (wrap64 (1 * 2 ^ min a0.toNat 64)) = ji12 := (i64_w _).symm.trans hji12_
          have hji12x : a0 ≤ 64 → (wrap64 (1 * 2 ^ a0.toNat)) = ji12 := fun h_ => (i64_w _).symm.trans (hji12z h_)
          obtain rfl := Option.some.inj H
          go_enter Tryd.func51, Tryd.ntmps51
          go_wp2
          repeat (go_quiet (fail); try go_wp2)
          go_ret
          exact ⟨by first | rfl | (simp; done) | (simp only [← hji5, ← hji7, ← hji8, ← hji10, ← hji12] <;> (first | rfl | simp)) | (simp [*]; done), by repeat (first | exact Drawn0.refl _ | apply Drawn0.step)⟩
        · rw [if_neg c11] at H
          exact absurd H (by simp)
      · rw [if_neg c9] at H
        exact absurd H (by simp)
    · rw [if_neg c6] at H
      exact absurd H (by simp)

end Go.Proofs.YtfpnojcbhbkfaaaDoor.P
