/- A part of a proof that a law's Go function returns true for every input, laid by this session's program mp.py (which drives the kit's print). Conditions: as each theorem states them. -/
import Derived.StillTailTactics
import Derived.Laws.EntriesVeiled
import Derived.Lib.SliceRun
import Derived.Test.YtfjafmgaahfhgaaCVoicesNear1
import Derived.Test.YtfjafmgaahfhgaaCVoicesNear2
import Derived.Test.YtfjafmgaahfhgaaCVoicesNear4
import Derived.Test.YtfjafmgaahfhgaaCVoicesNear6
namespace Go.Proofs.Ytfjafmgaahfhgaa.P
open Go.RowKit Go.Proofs.YtfjafmgaahfhgaaW.PrintWords Go.Proofs.YtfjafmgaahfhgaaW.PrintLast Go.Proofs.YtfjafmgaahfhgaaW.PrintMore
attribute [local go_sem] max2_int min2_int max_two min_two max_three min_three max_four min_four   -- for this text's walks alone
set_option linter.unusedVariables false
set_option linter.unusedSimpArgs false

/-! ### sackbutref06_same: function 48 -/
def sackbutref06_same.f (k : Nat) (l0 : List Int) (l1 : List Int) : Option (Bool) := (sackbutref06_less.f k l0 l1).bind fun t1001 => (if t1001 = true then (some false) else ((sackbutref06_less.f k l1 l0).bind fun t1002 => (some (!t1002))))
theorem sackbutref06_same.mono : ∀ a0 a1 k, LeO (sackbutref06_same.f k a0 a1) (sackbutref06_same.f (k + 1) a0 a1) := by
  intro a0 a1 k
  unfold sackbutref06_same.f
  repeat' first
      | (with_reducible exact sackbutref06_less.mono _ _ _)
      | (with_reducible exact LeO.refl _)
      | (with_reducible exact LeO.none _)
      | (with_reducible refine LeO.ite ?_ ?_)
      | (with_reducible refine LeO.bind ?_ (fun _ => ?_))
      | exact sackbutref06_less.mono _ _ _
      | exact LeO.none _
      | refine LeO.ite ?_ ?_
      | refine LeO.bind ?_ (fun _ => ?_)
set_option maxHeartbeats 8000000 in
set_option maxRecDepth 100000 in
theorem sackbutref06_same.calls (k : Nat) (A0 : Option Addr) (c0 : Nat) (l0 : List Int) (A1 : Option Addr) (c1 : Nat) (l1 : List Int) (r : Bool) (w : World) (hr0 : Kd.C (Kd.int .i64) w A0 l0.length l0) (hc0 : l0.length ≤ c0) (hr1 : Kd.C (Kd.int .i64) w A1 l1.length l1) (hc1 : l1.length ≤ c1) (h : sackbutref06_same.f k l0 l1 = some r) :
    Calls Try.prog 48 #[.slice A0 l0.length c0, .slice A1 l1.length c1] w fun e w' => e = .returned (.bool r) ∧ Drawn0 w w' := by
  have HR0 := Aside0.mk hr0
  have HC0 := Aside0.mk hc0
  clear hr0 hc0
  have HR1 := Aside0.mk hr1
  have HC1 := Aside0.mk hc1
  clear hr1 hc1
  have H : ((sackbutref06_less.f k l0 l1).bind fun t1001 => (if t1001 = true then (some false) else ((sackbutref06_less.f k l1 l0).bind fun t1002 => (some (!t1002))))) = some r := h
  clear h
  replace H := Option.bind_eq_some_iff.mp H
  obtain ⟨t1001, A30, H⟩ := H
  replace H : (if t1001 = true then (some false) else ((sackbutref06_less.f k l1 l0).bind fun t1002 => (some (!t1002)))) = some r := H
  have A3 := Aside0.mk A30
  clear A30
  by_cases c4 : t1001 = true
  · subst c4
    have H1 : (some false) = some r := by rw [if_pos rfl] at H; exact H
    clear H
    have H := H1
    clear H1
    obtain rfl := Option.some.inj H
    go_enter Try.func48, Try.ntmps48
    go_wp2_with (first | ((with_reducible refine gate_callee (f := 52) rfl ?_); refine goesL_ (some 7) rfl rfl Try.func52 (by kernel_rfl) rfl #[.slice A0 l0.length c0, .slice A1 l1.length c1] rfl (by (try simp only [List.map_toArray, List.map_cons, List.map_nil]); first | done | rfl | (simp only [List.length_drop, List.length_take]; rfl)) ?_; (with_reducible refine (sackbutref06_less.calls k _ _ l0 _ _ l1 true _ ?side1 ?side2 ?side3 ?side4 A3.out).mono ?_); (case side1 => repeat (first | exact HR0.out | (with_reducible refine Kd.C_alloc ?_ _) | (with_reducible refine Kd.C_drewN ?_ _) | (with_reducible refine Kd.C_drew ?_))); (case side2 => exact HC0.out); (case side3 => repeat (first | exact HR1.out | (with_reducible refine Kd.C_alloc ?_ _) | (with_reducible refine Kd.C_drewN ?_ _) | (with_reducible refine Kd.C_drew ?_))); (case side4 => exact HC1.out); rintro e w' ⟨rfl, ⟨nd, rfl⟩⟩; refine ⟨_, rfl, ?_⟩))
    go_ret
    exact ⟨by first | rfl | (simp; done) | (simp [*]; done), by repeat (first | exact Drawn0.refl _ | apply Drawn0.step)⟩
  · replace c4 := Bool.eq_false_iff.mpr c4
    subst c4
    have H1 : ((sackbutref06_less.f k l1 l0).bind fun t1002 => (some (!t1002))) = some r := by rw [if_neg (show ¬ (false = true) by decide)] at H; exact H
    clear H
    have H := H1
    clear H1
    replace H := Option.bind_eq_some_iff.mp H
    obtain ⟨t1002, A50, H⟩ := H
    replace H : (some (!t1002)) = some r := H
    have A5 := Aside0.mk A50
    clear A50
    obtain rfl := Option.some.inj H
    go_enter Try.func48, Try.ntmps48
    go_wp2_with (first | ((with_reducible refine gate_callee (f := 52) rfl ?_); refine goesL_ (some 7) rfl rfl Try.func52 (by kernel_rfl) rfl #[.slice A0 l0.length c0, .slice A1 l1.length c1] rfl (by (try simp only [List.map_toArray, List.map_cons, List.map_nil]); first | done | rfl | (simp only [List.length_drop, List.length_take]; rfl)) ?_; (with_reducible refine (sackbutref06_less.calls k _ _ l0 _ _ l1 false _ ?side1 ?side2 ?side3 ?side4 A3.out).mono ?_); (case side1 => repeat (first | exact HR0.out | (with_reducible refine Kd.C_alloc ?_ _) | (with_reducible refine Kd.C_drewN ?_ _) | (with_reducible refine Kd.C_drew ?_))); (case side2 => exact HC0.out); (case side3 => repeat (first | exact HR1.out | (with_reducible refine Kd.C_alloc ?_ _) | (with_reducible refine Kd.C_drewN ?_ _) | (with_reducible refine Kd.C_drew ?_))); (case side4 => exact HC1.out); rintro e w' ⟨rfl, ⟨nd, rfl⟩⟩; refine ⟨_, rfl, ?_⟩) | (go_at_call 52; (with_reducible refine (sackbutref06_less.calls k _ _ l1 _ _ l0 t1002 _ ?side1 ?side2 ?side3 ?side4 A5.out).mono ?_); (case side1 => repeat (first | exact HR1.out | (with_reducible refine Kd.C_alloc ?_ _) | (with_reducible refine Kd.C_drewN ?_ _) | (with_reducible refine Kd.C_drew ?_))); (case side2 => exact HC1.out); (case side3 => repeat (first | exact HR0.out | (with_reducible refine Kd.C_alloc ?_ _) | (with_reducible refine Kd.C_drewN ?_ _) | (with_reducible refine Kd.C_drew ?_))); (case side4 => exact HC0.out); rintro e w' ⟨rfl, ⟨nd, rfl⟩⟩))
    go_ret
    exact ⟨by first | rfl | (simp; done) | (simp [*]; done), by repeat (first | exact Drawn0.refl _ | apply Drawn0.step)⟩

end Go.Proofs.Ytfjafmgaahfhgaa.P
namespace Go.Proofs.Ytfjafmgaahfhgaa.P
open Go.RowKit Go.Proofs.YtfjafmgaahfhgaaW.PrintWords Go.Proofs.YtfjafmgaahfhgaaW.PrintLast Go.Proofs.YtfjafmgaahfhgaaW.PrintMore
attribute [local go_sem] max2_int min2_int max_two min_two max_three min_three max_four min_four   -- for this text's walks alone
set_option linter.unusedVariables false
set_option linter.unusedSimpArgs false

/-! the document's order of voicings -/
def lessL6 : List Int → List Int → Bool
  | x :: a, y :: b => if x = y then lessL6 a b else decide (x < y)
  | _, _ => false
theorem less6_loop (l1 l0 : List Int) (hlen : l0.length = l1.length) (hb : l0.length < 9223372036854775807) : ∀ (xs ys pre pre1 : List Int), l0 = pre ++ xs → l1 = pre1 ++ ys → pre.length = pre1.length →
    Ev (fun k => sackbutref06_less.l0 k l1 l0 (l0.length : Int) (pre.length : Int)) (lessL6 xs ys) := by
  intro xs
  induction xs with
  | nil =>
    intro ys pre pre1 h0 h1 hp
    refine Ev.succ ?_
    simp only [sackbutref06_less.l0, if_neg (mid_end h0)]
    simpa [lessL6] using Ev.some false
  | cons x xs ih =>
    intro ys pre pre1 h0 h1 hp
    cases ys with
    | nil => exfalso; have := congrArg List.length h0; have := congrArg List.length h1; simp at *; omega
    | cons y ys =>
      have hrd : rd l1 (pre.length : Int) = y := by rw [hp]; exact mid_rd h1
      have l1' : (pre.length : Int) < (l1.length : Int) := by rw [hp]; exact mid_lt h1
      refine Ev.succ ?_
      simp only [sackbutref06_less.l0, if_pos (mid_lt h0), if_pos (show (0 : Int) ≤ (pre.length : Int) by omega), mid_rd h0, hrd, mid_next h0 hb, if_pos l1', lessL6]
      refine Ev.ite (fun e => ?_) (fun e => ?_)
      · have := ih ys (pre ++ [x]) (pre1 ++ [y]) (mid_mv h0) (mid_mv h1) (by simp [hp])
        simpa [e] using this
      · simpa [e] using Ev.some (decide (x < y))
theorem less6_ev (l0 l1 : List Int) (hlen : l0.length = l1.length) (hb : l0.length < 9223372036854775807) : Ev (fun k => sackbutref06_less.f k l0 l1) (lessL6 l0 l1) := less6_loop l1 l0 hlen hb l0 l1 [] [] rfl rfl rfl
theorem lessL6_same : ∀ (a b : List Int), a.length = b.length → ((lessL6 a b = false ∧ lessL6 b a = false) ↔ a = b)
  | [], [], _ => by simp [lessL6]
  | x :: a, y :: b, h => by
    have ih := lessL6_same a b (by simpa using h)
    simp only [lessL6, List.cons.injEq]
    by_cases e : x = y
    · subst e
      simp only [if_true, true_and]
      exact ih
    · rw [if_neg e, if_neg (fun h => e h.symm)]
      simp only [decide_eq_false_iff_not]
      constructor
      · rintro ⟨h1, h2⟩; omega
      · rintro ⟨h1, _⟩; exact absurd h1 e
  | [], _ :: _, h => by simp at h
  | _ :: _, [], h => by simp at h
theorem same6_ev (l0 l1 : List Int) (hlen : l0.length = l1.length) (hb : l0.length < 9223372036854775807) : Ev (fun k => sackbutref06_same.f k l0 l1) (decide (l0 = l1)) := by
  unfold sackbutref06_same.f
  have hs := lessL6_same l0 l1 hlen
  refine Ev.bind (less6_ev l0 l1 hlen hb) ?_
  cases h1 : lessL6 l0 l1 with
  | true =>
    simp only [if_true]
    rw [decide_eq_false (fun e => by have := hs.2 e; rw [h1] at this; cases this.1)]
    exact Ev.some _
  | false =>
    simp only [Bool.false_eq_true, if_false]
    refine Ev.bind (less6_ev l1 l0 hlen.symm (by omega)) ?_
    cases h2 : lessL6 l1 l0 with
    | true =>
      rw [decide_eq_false (fun e => by have := hs.2 e; rw [h2] at this; cases this.2)]
      exact Ev.some _
    | false =>
      rw [decide_eq_true (hs.1 ⟨h1, h2⟩)]
      exact Ev.some _

end Go.Proofs.Ytfjafmgaahfhgaa.P
namespace Go.Proofs.Ytfjafmgaahfhgaa.P
open Go.RowKit Go.Proofs.YtfjafmgaahfhgaaW.PrintWords Go.Proofs.YtfjafmgaahfhgaaW.PrintLast Go.Proofs.YtfjafmgaahfhgaaW.PrintMore
attribute [local go_sem] max2_int min2_int max_two min_two max_three min_three max_four min_four   -- for this text's walks alone
set_option linter.unusedVariables false
set_option linter.unusedSimpArgs false

/-! the document's Near -/
def rimg (n : Nat) (b : List Int) (k q : Nat) : List Int := risR (b.map (vImg n k (decide (q = 1))))
def rimgs (n : Nat) (b : List Int) (k j : Nat) : List (List Int) := ((List.range k).flatMap fun p => (List.range 2).map fun q => rimg n b p q) ++ (List.range j).map fun q => rimg n b k q
theorem rimgs_next (n : Nat) (b : List Int) (k j : Nat) : rimgs n b k (j + 1) = rimgs n b k j ++ [rimg n b k j] := by
  unfold rimgs; rw [List.range_succ (n := j), List.map_append]; simp
theorem rimgs_turn (n : Nat) (b : List Int) (k : Nat) : rimgs n b k 2 = rimgs n b (k + 1) 0 := by
  unfold rimgs; rw [List.range_succ (n := k)]; simp
def rnS (n : Int) (a : List Int) (st : Option (List Int)) (x : List Int) : Option (List Int) := match st with
  | none => some x
  | some w => if (bestV n a x).2 < (bestV n a w).2 ∨ ((bestV n a x).2 = (bestV n a w).2 ∧ lessL6 x w = true) then some x else some w
def rnF (n : Int) (a : List Int) (L : List (List Int)) : Option (List Int) := L.foldl (rnS n a) none
theorem rnF_snoc (n : Int) (a : List Int) (L : List (List Int)) (x : List Int) : rnF n a (L ++ [x]) = rnS n a (rnF n a L) x := by unfold rnF; rw [List.foldl_append]; rfl
def rnV (n : Int) (a b : List Int) : Option (List Int) := rnF n a (rimgs n.toNat b n.toNat 0)
def sackbutref06_Near.f (a0 : Int) (l1 l2 : List Int) : Option (List Int × Int) := if TwoN a0 l1 l2 then some ((rnV a0 l1 l2).getD [], (bestV a0 l1 ((rnV a0 l1 l2).getD [])).2) else none
theorem rnS_some (n : Int) (a : List Int) (st : Option (List Int)) (x : List Int) : ∃ y, rnS n a st x = some y ∧ (y = x ∨ st = some y) := by
  cases st with
  | none => exact ⟨x, rfl, .inl rfl⟩
  | some w =>
    simp only [rnS]
    split
    · exact ⟨x, rfl, .inl rfl⟩
    · exact ⟨w, rfl, .inr rfl⟩
theorem rnF_mem {n : Int} {a : List Int} : ∀ (L : List (List Int)) (st : Option (List Int)) (y : List Int), L.foldl (rnS n a) st = some y → y ∈ L ∨ st = some y
  | [], st, y, h => .inr h
  | x :: L, st, y, h => by
    rw [List.foldl_cons] at h
    rcases rnF_mem L _ y h with h | h
    · exact .inl (by simp [h])
    · obtain ⟨z, hz, e⟩ := rnS_some n a st x
      rw [hz] at h
      injection h with h
      subst h
      rcases e with rfl | e
      · exact .inl (by simp)
      · exact .inr e
theorem rnF_some {n : Int} {a : List Int} : ∀ (L : List (List Int)) (st : Option (List Int)), (L ≠ [] ∨ st ≠ none) → ∃ p, L.foldl (rnS n a) st = some p
  | [], st, h => by
    cases st with
    | none => simp at h
    | some p => exact ⟨p, rfl⟩
  | v :: L, st, _ => by
    rw [List.foldl_cons]
    obtain ⟨p, hp, _⟩ := rnS_some n a st v
    exact rnF_some L _ (.inr (by rw [hp]; simp))
theorem rimg_two {n : Nat} {a b : List Int} (h : TwoN n a b) (k q : Nat) : TwoN n a (rimg n b k q) := ⟨h.1, voi_perm (voi_img _ h.2.1) (risR_perm _), by unfold rimg; rw [(risR_perm _).length_eq, List.length_map]; exact h.2.2⟩
theorem rimgs_mem {n : Nat} {b v : List Int} {k j : Nat} (h : v ∈ rimgs n b k j) : ∃ p q, v = rimg n b p q := by
  unfold rimgs at h
  rcases List.mem_append.1 h with h | h
  · obtain ⟨p, _, h⟩ := List.mem_flatMap.1 h
    obtain ⟨q, _, rfl⟩ := List.mem_map.1 h
    exact ⟨p, q, rfl⟩
  · obtain ⟨q, _, rfl⟩ := List.mem_map.1 h
    exact ⟨k, q, rfl⟩
def NearB (base : Nat) (W : World) (v : Value) (st : Option (List Int)) : Prop := match st with
  | none => v = .slice none 0 0
  | some x => ∃ ad cap, v = .slice (some ad) x.length cap ∧ Kd.R (Kd.int .i64) 3 W base (fun _ => True) (.slice (some ad) x.length cap) x
set_option maxHeartbeats 8000000 in
set_option maxRecDepth 100000 in
theorem sackbutref06_Near.calls (a0 : Int) (A1 : Option Addr) (c1 : Nat) (l1 : List Int) (A2 : Option Addr) (c2 : Nat) (l2 : List Int) (r1 : List Int) (r2 : Int) (w : World) (hr1 : Kd.C (Kd.int .i64) w A1 l1.length l1) (hc1 : l1.length ≤ c1) (hr2 : Kd.C (Kd.int .i64) w A2 l2.length l2) (hc2 : l2.length ≤ c2) (h : sackbutref06_Near.f a0 l1 l2 = some (r1, r2)) :
    Calls Try.prog 27 #[.int .i64 a0, .slice A1 l1.length c1, .slice A2 l2.length c2] w fun e w' => ∃ v0_ : Value, e = .returned (.tuple #[v0_, .int .i64 r2]) ∧ Kd.R (Kd.int .i64) 3 w' w.heap.size (fun _ => True) v0_ r1 ∧ Below w.heap.size w w' := by
  unfold sackbutref06_Near.f at h
  by_cases hc : TwoN a0 l1 l2
  · rw [if_pos hc] at h
    simp only [Option.some.injEq, Prod.mk.injEq] at h
    obtain ⟨hres1, hres2⟩ := h
    obtain ⟨n, rfl⟩ : ∃ n : Nat, a0 = (n : Int) := ⟨a0.toNat, by have := hc.1.1; omega⟩
    have HT := Aside0.mk hc
    have HN := Aside0.mk (show 2 ≤ n ∧ n ≤ 16 from ⟨by have := hc.1.1; omega, by have := hc.1.2.1; omega⟩)
    have HRES1 := Aside0.mk hres1
    have HRES2 := Aside0.mk hres2
    have HR1 := Aside0.mk hr1
    have HR2 := Aside0.mk hr2
    have HC1 := Aside0.mk hc1
    have HC2 := Aside0.mk hc2
    have HL := Aside0.mk (show 1 ≤ l2.length ∧ l2.length ≤ 6 from ⟨hc.2.1.2.2.1, hc.2.1.2.2.2.1⟩)
    have q22 : ∀ (w : World) (a : Option Addr) (n c n' c' : Nat), (binOp .eql 23 (.slice a n c) (.slice none n' c')).run Try.prog w = .ok (.bool a.isNone) w := fun w a n c n' c' => Lib.run_eql_slice_nil w _ _ a n c n' c' Try.underlying23
    clear hc hres1 hres2 hr1 hr2 hc1 hc2
    generalize hLL1 : l1.length = L1 at *
    have HLL1 := Aside0.mk hLL1
    generalize hLL2 : l2.length = L2 at *
    have HLL2 := Aside0.mk hLL2
    clear hLL1 hLL2
    have HCOST := Aside0.mk (fun (x : List Int) (hx : TwoN (n : Int) l1 x) => Ev.rounds (g := fun k => sackbutref06_Cost.f k n l1 x) (refCost_ev hx))
    go_enter Try.func27, Try.ntmps27
    go_wp2
    go_loopg [8, 16] n (fun gg s8 s16 wr => ∃ (k : Nat) (v : Value), s16 = .int .i64 k ∧ v = s8 ∧ Aside0 (k + gg = n) ∧ NearB w.heap.size wr v (rnF (n : Int) l1 (rimgs n l2 k 0)) ∧ Aside0 (Below w.heap.size w wr))
    case atStart => exact ⟨0, _, rfl, rfl, ⟨by omega⟩, rfl, ⟨Below.refl _ _⟩⟩
    case round =>
      obtain ⟨k, v8, rfl, rfl, HK, hNB, HBK⟩ := hrel
      obtain ⟨G, rfl⟩ : ∃ G, G = gk := ⟨gk, rfl⟩
      obtain ⟨wk, hwk⟩ : ∃ wk : World, wk = wr := ⟨wr, rfl⟩
      subst hwk
      have HNB := Aside0.mk hNB
      clear hNB
      by_cases hk : k < n
      · have hkz : (k : Int) < (n : Int) := by omega
        go_wp2
        have hblk := World.alloc_heap_new wk (.cells #[.bool false, .bool true] 4)
        have hbz : Below w.heap.size w (wk.alloc (.cells #[.bool false, .bool true] 4)) := below_alloc HBK.out _
        have hbk2 : Below wk.heap.size wk (wk.alloc (.cells #[.bool false, .bool true] 4)) := below_alloc (Below.refl _ _) _
        obtain ⟨T, hT⟩ : ∃ T, wk.heap.size = T := ⟨_, rfl⟩
        rw [hT] at hblk ⊢
        have HTS := Aside0.mk (show T < (wk.alloc (.cells #[.bool false, .bool true] 4)).heap.size from by rw [World.size_alloc, hT]; omega)
        generalize wk.alloc (.cells #[.bool false, .bool true] 4) = W3 at hblk hbz hbk2 HTS ⊢
        have HBLK := Aside0.mk hblk
        have HBZ := Aside0.mk hbz
        have HNB3 := Aside0.mk (show NearB w.heap.size W3 v8 (rnF (n : Int) l1 (rimgs n l2 k 0)) from by
          have h := HNB.out
          generalize rnF (n : Int) l1 (rimgs n l2 k 0) = st at h ⊢
          cases st with
          | none => exact h
          | some x => obtain ⟨ad, cap, e, hR⟩ := h; exact ⟨ad, cap, e, Kd.R_below hR hbk2⟩)
        obtain ⟨adT, hadT⟩ : ∃ ad : Addr, ad = ⟨T, 0, none⟩ := ⟨_, rfl⟩
        rw [← hadT]
        have HADT := Aside0.mk hadT
        clear hblk hbz hbk2 hT hadT
        go_loopg [8, 21] 2 (fun gg s8 s21 wr => ∃ (j : Nat) (v : Value), s21 = .int .i64 j ∧ v = s8 ∧ Aside0 (j + gg = 2) ∧ NearB w.heap.size wr v (rnF (n : Int) l1 (rimgs n l2 k j)) ∧ Aside0 (Below W3.heap.size W3 wr))
        case atStart => exact ⟨0, _, rfl, rfl, ⟨by omega⟩, HNB3.out, ⟨Below.refl _ _⟩⟩
        case round =>
          obtain ⟨j, v9, rfl, rfl, HJ, hNBj, HBJ⟩ := hrel
          obtain ⟨wj, hwj⟩ : ∃ wj : World, wj = wr := ⟨wr, rfl⟩
          subst hwj
          by_cases hj : j < 2
          · have hjz : (j : Int) < 2 := by omega
            have hj0 : (0 : Int) ≤ (j : Int) := by omega
            obtain ⟨t, ht⟩ : ∃ t, decide (j = 1) = t := ⟨_, rfl⟩
            have hcT : wj.cell? (adT.add j) = some (.bool t) := by
              have hb := (HBJ.out.block T HTS.out).trans HBLK.out
              obtain ⟨t0, t1⟩ := two_cells9 hb
              rw [HADT.out, ← ht]
              have hj2 : j = 0 ∨ j = 1 := by omega
              rcases hj2 with rfl | rfl
              · exact t0
              · exact t1
            have hbj : Below w.heap.size w wj := HBZ.out.trans (HBJ.out.mono HBZ.out.size)
            have HBW := Aside0.mk hbj
            obtain ⟨ki, hki⟩ := Ev.rounds (g := fun q => sackbutref06_Image.f q n l2 (k : Int) t) (Image_ev t HT.out.2.1 ⟨by omega, hkz⟩)
            have hrim : risR (l2.map (vImg n k t)) = rimg n l2 k j := by unfold rimg; rw [ht]
            rw [hrim] at hki
            have himg := sackbutref06_Image.calls ki (n : Int) A2 c2 l2 (k : Int) t (rimg n l2 k j) wj (by rw [HLL2.out]; exact Kd.C_below HR2.out hbj) (by rw [HLL2.out]; exact HC2.out) hki
            rw [HLL2.out] at himg
            have HIMG := Aside0.mk himg
            have htw := rimg_two HT.out k j
            have HTW := Aside0.mk htw
            have hxl : (rimg n l2 k j).length = L2 := by rw [← htw.2.2, HT.out.2.2, HLL2.out]
            have HXL := Aside0.mk hxl
            have HSN := Aside0.mk (show rnF (n : Int) l1 (rimgs n l2 k (j + 1)) = rnS (n : Int) l1 (rnF (n : Int) l1 (rimgs n l2 k j)) (rimg n l2 k j) by rw [rimgs_next, rnF_snoc])
            have HLW := Aside0.mk (show ∀ y, rnF (n : Int) l1 (rimgs n l2 k j) = some y → TwoN (n : Int) l1 y from fun y hy => by
              rcases rnF_mem _ _ y hy with h | h
              · obtain ⟨p, q, rfl⟩ := rimgs_mem h
                exact rimg_two HT.out p q
              · cases h)
            clear ht hbj hki hrim himg htw hxl
            generalize rnF (n : Int) l1 (rimgs n l2 k j) = st at hNBj HSN HLW
            generalize hxx : rimg n l2 k j = x at HIMG HTW HXL HSN
            clear hxx
            obtain ⟨kx, hkx⟩ := HCOST.out x HTW.out
            have HKX := Aside0.mk hkx
            clear hkx
            cases st with
            | none =>
              have hs8 : v9 = .slice none 0 0 := hNBj
              subst hs8
              clear hNBj
              go_wp2_with fail
              refine HIMG.out.mono ?_
              rintro e w1 ⟨v1, rfl, hr1, hb1⟩
              obtain ⟨Ax, cx, e1⟩ := Kd.R_slice hr1
              subst e1
              obtain ⟨adx, e2, _⟩ := Kd.at_int (Kd.R_reads' hr1).2.2 0 (by omega) (by rw [HXL.out]; have := HL.out; omega)
              subst e2
              have hpx := fun (W' : World) (hb : Below w1.heap.size w1 W') => sackbutref06_Cost.calls kx (n : Int) A1 c1 l1 (some adx) cx x (bestV (n : Int) l1 x).2 W' (by rw [HLL1.out]; exact Kd.C_below (Kd.C_below HR1.out (HBW.out.trans (hb1.mono HBW.out.size))) hb) (by rw [HLL1.out]; exact HC1.out) (Kd.C_below (Kd.R_reads' hr1).2.2 hb) (Kd.R_reads' hr1).2.1 HKX.out
              rw [HLL1.out, HXL.out] at hpx
              have HPX := Aside0.mk hpx
              have HRX := Aside0.mk hr1
              have HB1 := Aside0.mk hb1
              rw [HXL.out]
              clear hpx hr1 hb1
              obtain ⟨kl, hkl⟩ := Ev.rounds (g := fun k => sackbutref06_less.f k x x) (less6_ev x x rfl (by rw [HXL.out]; have := HL.out; omega))
              have hpl := fun (W' : World) (hb : Below w1.heap.size w1 W') => sackbutref06_less.calls kl (some adx) cx x (some adx) cx x (lessL6 x x) W' (Kd.C_below (Kd.R_reads' HRX.out).2.2 hb) (Kd.R_reads' HRX.out).2.1 (Kd.C_below (Kd.R_reads' HRX.out).2.2 hb) (Kd.R_reads' HRX.out).2.1 hkl
              rw [HXL.out] at hpl
              have hself : lessL6 x x = false := ((lessL6_same x x rfl).2 rfl).1
              rw [hself] at hpl
              have HPL := Aside0.mk hpl
              generalize (bestV (n : Int) l1 x).2 = p at HPX
              have q1 : decide (p < p) = false := decide_eq_false (by omega)
              have q2 : (p == p) = true := beq_self_eq_true p
              clear hkl hpl hself
              go_wp2_with fail
              refine (HPX.out _ (Below.refl _ _)).mono ?_
              rintro e w2 ⟨rfl, hb2⟩
              have HB2 := Aside0.mk hb2
              clear hb2
              go_wp2_with fail
              refine (HPX.out _ HB2.out).mono ?_
              rintro e w3 ⟨rfl, hb3⟩
              have HB3 := Aside0.mk (HB2.out.trans (hb3.mono HB2.out.size))
              clear hb3
              go_wp2_with fail
              refine (HPL.out _ HB3.out).mono ?_
              rintro e w4 ⟨rfl, hd⟩
              have HB4 := Aside0.mk (show Below w1.heap.size w1 w4 from by obtain ⟨qd, rfl⟩ := hd; exact pw_below_drewN HB3.out qd)
              clear hd
              go_wp2
              go_roundg (gk - 1)
              case measure => have := HJ.out; omega
              case rel => exact ⟨j + 1, _, by first | go_num | (rw [wrap_id (by omega) (by omega)]; rfl), rfl, ⟨by have := HJ.out; omega⟩, by rw [HSN.out, rnS]; exact ⟨adx, cx, by rw [HXL.out], by have h := HRX.out; rw [HXL.out]; exact Kd.R_below (Kd.R_lower (by rw [HXL.out] at h; exact h) HBW.out.size) HB4.out⟩, ⟨HBJ.out.trans ((HB1.out.trans (HB4.out.mono HB1.out.size)).mono HBJ.out.size)⟩⟩
            | some y =>
              obtain ⟨ady, capy, e8, hRy⟩ := hNBj
              subst e8
              have hyl : y.length = L2 := by have h := HLW.out y rfl; rw [← h.2.2, HT.out.2.2, HLL2.out]
              have HYL := Aside0.mk hyl
              have HRY := Aside0.mk hRy
              obtain ⟨ky, hky⟩ := HCOST.out y (HLW.out y rfl)
              have HKY := Aside0.mk hky
              rw [hyl]
              clear hRy hyl hky
              go_wp2_with fail
              refine HIMG.out.mono ?_
              rintro e w1 ⟨v1, rfl, hr1, hb1⟩
              obtain ⟨Ax, cx, e1⟩ := Kd.R_slice hr1
              subst e1
              obtain ⟨adx, e2, _⟩ := Kd.at_int (Kd.R_reads' hr1).2.2 0 (by omega) (by rw [HXL.out]; have := HL.out; omega)
              subst e2
              have hpx := fun (W' : World) (hb : Below w1.heap.size w1 W') => sackbutref06_Cost.calls kx (n : Int) A1 c1 l1 (some adx) cx x (bestV (n : Int) l1 x).2 W' (by rw [HLL1.out]; exact Kd.C_below (Kd.C_below HR1.out (HBW.out.trans (hb1.mono HBW.out.size))) hb) (by rw [HLL1.out]; exact HC1.out) (Kd.C_below (Kd.R_reads' hr1).2.2 hb) (Kd.R_reads' hr1).2.1 HKX.out
              rw [HLL1.out, HXL.out] at hpx
              have HPX := Aside0.mk hpx
              have HRX := Aside0.mk hr1
              have HB1 := Aside0.mk hb1
              rw [HXL.out]
              clear hpx hr1 hb1
              have HCY := Aside0.mk (Kd.C_below (Kd.R_reads' HRY.out).2.2 HB1.out)
              have hpy := fun (W' : World) (hb : Below w1.heap.size w1 W') => sackbutref06_Cost.calls ky (n : Int) A1 c1 l1 (some ady) capy y (bestV (n : Int) l1 y).2 W' (by rw [HLL1.out]; exact Kd.C_below (Kd.C_below HR1.out (HBW.out.trans (HB1.out.mono HBW.out.size))) hb) (by rw [HLL1.out]; exact HC1.out) (Kd.C_below HCY.out hb) (Kd.R_reads' HRY.out).2.1 HKY.out
              rw [HLL1.out, HYL.out] at hpy
              have HPY := Aside0.mk hpy
              clear hpy
              obtain ⟨kl, hkl⟩ := Ev.rounds (g := fun k => sackbutref06_less.f k x y) (less6_ev x y (by rw [HXL.out, HYL.out]) (by rw [HXL.out]; have := HL.out; omega))
              have hpl := fun (W' : World) (hb : Below w1.heap.size w1 W') => sackbutref06_less.calls kl (some adx) cx x (some ady) capy y (lessL6 x y) W' (Kd.C_below (Kd.R_reads' HRX.out).2.2 hb) (Kd.R_reads' HRX.out).2.1 (Kd.C_below HCY.out hb) (Kd.R_reads' HRY.out).2.1 hkl
              rw [HXL.out, HYL.out] at hpl
              have hrs : rnS (n : Int) l1 (some y) x = if (bestV (n : Int) l1 x).2 < (bestV (n : Int) l1 y).2 ∨ ((bestV (n : Int) l1 x).2 = (bestV (n : Int) l1 y).2 ∧ lessL6 x y = true) then some x else some y := rfl
              generalize (bestV (n : Int) l1 x).2 = p1 at HPX hrs
              generalize (bestV (n : Int) l1 y).2 = p2 at HPY hrs
              generalize lessL6 x y = lb at hpl hrs
              have HPL := Aside0.mk hpl
              clear hkl hpl
              by_cases hlt : p1 < p2
              · have q1 : decide (p1 < p2) = true := decide_eq_true hlt
                have HRS := Aside0.mk (hrs.trans (if_pos (.inl hlt)))
                clear hlt hrs
                go_wp2_with fail
                refine (HPX.out _ (Below.refl _ _)).mono ?_
                rintro e w2 ⟨rfl, hb2⟩
                have HB2 := Aside0.mk hb2
                clear hb2
                go_wp2_with fail
                refine (HPY.out _ HB2.out).mono ?_
                rintro e w3 ⟨rfl, hb3⟩
                have HB3 := Aside0.mk (HB2.out.trans (hb3.mono HB2.out.size))
                clear hb3
                go_wp2
                go_roundg (gk - 1)
                case measure => have := HJ.out; omega
                case rel => exact ⟨j + 1, _, by first | go_num | (rw [wrap_id (by omega) (by omega)]; rfl), rfl, ⟨by have := HJ.out; omega⟩, by rw [HSN.out, HRS.out]; exact ⟨adx, cx, by rw [HXL.out], by have h := HRX.out; rw [HXL.out]; exact Kd.R_below (Kd.R_lower (by rw [HXL.out] at h; exact h) HBW.out.size) HB3.out⟩, ⟨HBJ.out.trans ((HB1.out.trans (HB3.out.mono HB1.out.size)).mono HBJ.out.size)⟩⟩
              · have q1 : decide (p1 < p2) = false := decide_eq_false hlt
                by_cases heq : p1 = p2
                · have q2 : (p1 == p2) = true := beq_iff_eq.2 heq
                  cases lb with
                  | true =>
                    have HRS := Aside0.mk (hrs.trans (if_pos (.inr ⟨heq, rfl⟩)))
                    clear hlt hrs heq
                    go_wp2_with fail
                    refine (HPX.out _ (Below.refl _ _)).mono ?_
                    rintro e w2 ⟨rfl, hb2⟩
                    have HB2 := Aside0.mk hb2
                    clear hb2
                    go_wp2_with fail
                    refine (HPY.out _ HB2.out).mono ?_
                    rintro e w3 ⟨rfl, hb3⟩
                    have HB3 := Aside0.mk (HB2.out.trans (hb3.mono HB2.out.size))
                    clear hb3
                    go_wp2_with fail
                    refine (HPL.out _ HB3.out).mono ?_
                    rintro e w4 ⟨rfl, hd⟩
                    have HB4 := Aside0.mk (show Below w1.heap.size w1 w4 from by obtain ⟨qd, rfl⟩ := hd; exact pw_below_drewN HB3.out qd)
                    clear hd
                    go_wp2
                    go_roundg (gk - 1)
                    case measure => have := HJ.out; omega
                    case rel => exact ⟨j + 1, _, by first | go_num | (rw [wrap_id (by omega) (by omega)]; rfl), rfl, ⟨by have := HJ.out; omega⟩, by rw [HSN.out, HRS.out]; exact ⟨adx, cx, by rw [HXL.out], by have h := HRX.out; rw [HXL.out]; exact Kd.R_below (Kd.R_lower (by rw [HXL.out] at h; exact h) HBW.out.size) HB4.out⟩, ⟨HBJ.out.trans ((HB1.out.trans (HB4.out.mono HB1.out.size)).mono HBJ.out.size)⟩⟩
                  | false =>
                    have HRS := Aside0.mk (hrs.trans (if_neg (fun h => h.elim hlt (fun h => by cases h.2))))
                    clear hlt hrs heq
                    go_wp2_with fail
                    refine (HPX.out _ (Below.refl _ _)).mono ?_
                    rintro e w2 ⟨rfl, hb2⟩
                    have HB2 := Aside0.mk hb2
                    clear hb2
                    go_wp2_with fail
                    refine (HPY.out _ HB2.out).mono ?_
                    rintro e w3 ⟨rfl, hb3⟩
                    have HB3 := Aside0.mk (HB2.out.trans (hb3.mono HB2.out.size))
                    clear hb3
                    go_wp2_with fail
                    refine (HPL.out _ HB3.out).mono ?_
                    rintro e w4 ⟨rfl, hd⟩
                    have HB4 := Aside0.mk (show Below w1.heap.size w1 w4 from by obtain ⟨qd, rfl⟩ := hd; exact pw_below_drewN HB3.out qd)
                    clear hd
                    go_wp2
                    go_roundg (gk - 1)
                    case measure => have := HJ.out; omega
                    case rel => exact ⟨j + 1, _, by first | go_num | (rw [wrap_id (by omega) (by omega)]; rfl), rfl, ⟨by have := HJ.out; omega⟩, by rw [HSN.out, HRS.out]; exact ⟨ady, capy, by rw [HYL.out], by have h := Kd.R_below (Kd.R_below HRY.out HB1.out) HB4.out; rw [HYL.out] at h ⊢; exact h⟩, ⟨HBJ.out.trans ((HB1.out.trans (HB4.out.mono HB1.out.size)).mono HBJ.out.size)⟩⟩
                · have q2 : (p1 == p2) = false := beq_eq_false_iff_ne.2 heq
                  have HRS := Aside0.mk (hrs.trans (if_neg (fun h => h.elim hlt (fun h => heq h.1))))
                  clear hlt hrs heq
                  go_wp2_with fail
                  refine (HPX.out _ (Below.refl _ _)).mono ?_
                  rintro e w2 ⟨rfl, hb2⟩
                  have HB2 := Aside0.mk hb2
                  clear hb2
                  go_wp2_with fail
                  refine (HPY.out _ HB2.out).mono ?_
                  rintro e w3 ⟨rfl, hb3⟩
                  have HB3 := Aside0.mk (HB2.out.trans (hb3.mono HB2.out.size))
                  clear hb3
                  go_wp2
                  go_roundg (gk - 1)
                  case measure => have := HJ.out; omega
                  case rel => exact ⟨j + 1, _, by first | go_num | (rw [wrap_id (by omega) (by omega)]; rfl), rfl, ⟨by have := HJ.out; omega⟩, by rw [HSN.out, HRS.out]; exact ⟨ady, capy, by rw [HYL.out], by have h := Kd.R_below (Kd.R_below HRY.out HB1.out) HB3.out; rw [HYL.out] at h ⊢; exact h⟩, ⟨HBJ.out.trans ((HB1.out.trans (HB3.out.mono HB1.out.size)).mono HBJ.out.size)⟩⟩
          · have hj2 : j = 2 := by have := HJ.out; omega
            have hjz : ¬ (j : Int) < 2 := by omega
            rw [hj2, rimgs_turn] at hNBj
            have HNJ := Aside0.mk hNBj
            have hkb : k < 1000 := by have := HN.out; omega
            clear hj2 hNBj
            go_wp2
            go_roundg (G - 1)
            case measure => have := HK.out; omega
            case rel => exact ⟨k + 1, _, by first | go_num | (rw [wrap_id (by omega) (by omega)]; rfl), rfl, ⟨by have := HK.out; omega⟩, HNJ.out, ⟨HBZ.out.trans (HBJ.out.mono HBZ.out.size)⟩⟩
      · have hkn : k = n := by have := HK.out; omega
        have hkz : ¬ (k : Int) < (n : Int) := by omega
        have hnb := HNB.out
        rw [hkn] at hnb
        have hn0 : 0 < n := by have := HN.out; omega
        have hmem : rimg n l2 0 0 ∈ rimgs n l2 n 0 := by
          unfold rimgs
          exact List.mem_append.2 (.inl (List.mem_flatMap.2 ⟨0, List.mem_range.2 hn0, List.mem_map.2 ⟨0, List.mem_range.2 (by omega), rfl⟩⟩))
        have hne : rimgs n l2 n 0 ≠ [] := List.ne_nil_of_mem hmem
        obtain ⟨y, hy⟩ := rnF_some (n := (n : Int)) (a := l1) (rimgs n l2 n 0) none (.inl hne)
        have hy2 : rnF (n : Int) l1 (rimgs n l2 n 0) = some y := hy
        rw [hy2] at hnb
        have htw : TwoN (n : Int) l1 y := by
          rcases rnF_mem _ _ y hy with h | h
          · obtain ⟨p, q, rfl⟩ := rimgs_mem h
            exact rimg_two HT.out p q
          · cases h
        have hv : rnV (n : Int) l1 l2 = some y := by unfold rnV; rw [Int.toNat_natCast]; exact hy2
        have h1 := HRES1.out
        have h2 := HRES2.out
        rw [hv] at h1 h2
        have H1 := Aside0.mk (show y = r1 from h1)
        have H2 := Aside0.mk (show (bestV (n : Int) l1 y).2 = r2 from h2)
        obtain ⟨ady, capy, e8, hRy⟩ := hnb
        subst e8
        obtain ⟨ky, hky⟩ := HCOST.out y htw
        have hpy := sackbutref06_Cost.calls ky (n : Int) A1 c1 l1 (some ady) capy y (bestV (n : Int) l1 y).2 wk (by rw [HLL1.out]; exact Kd.C_below HR1.out HBK.out) (by rw [HLL1.out]; exact HC1.out) (Kd.R_reads' hRy).2.2 (Kd.R_reads' hRy).2.1 hky
        rw [HLL1.out, H2.out] at hpy
        have HPY := Aside0.mk hpy
        have HRY := Aside0.mk hRy
        generalize hLy : y.length = Ly at HPY HRY
        clear hkn hne hmem hn0 hy hy2 htw hv h1 h2 hRy hky hpy hLy
        go_wp2_with fail
        refine HPY.out.mono ?_
        rintro e w3 ⟨rfl, hb3⟩
        have HB3 := Aside0.mk hb3
        clear hb3
        go_wp2
        go_ret2
        rw [← H1.out]
        exact ⟨_, rfl, Kd.R_below HRY.out HB3.out, HBK.out.trans (HB3.out.mono HBK.out.size)⟩
  · rw [if_neg hc] at h; cases h

end Go.Proofs.Ytfjafmgaahfhgaa.P
namespace Go.Proofs.Ytfjafmgaahfhgaa.P
open Go.RowKit Go.Proofs.YtfjafmgaahfhgaaW.PrintWords Go.Proofs.YtfjafmgaahfhgaaW.PrintLast Go.Proofs.YtfjafmgaahfhgaaW.PrintMore
attribute [local go_sem] max2_int min2_int max_two min_two max_three min_three max_four min_four   -- for this text's walks alone
set_option linter.unusedVariables false
set_option linter.unusedSimpArgs false

/-! ### slices_Equal_int_int: function 14 -/
def slices_Equal_int_int.l0 : Nat → List Int → List Int → Int → Int → Option (Bool)
  | 0, _, _, _, _ => none
  | k + 1, x0, x1, x12, x13 => if x13 < x12 then (if 0 ≤ x13 then (if x13 < (x0.length : Int) then (if x13 < (x1.length : Int) then (if (rd x0 x13) = (rd x1 x13) then (slices_Equal_int_int.l0 k x0 x1 x12 (wrap64 (x13 + 1))) else (some false)) else (none)) else (none)) else (none)) else (some true)
def slices_Equal_int_int.f (k : Nat) (l0 : List Int) (l1 : List Int) : Option (Bool) := if (l0.length : Int) = (l1.length : Int) then (slices_Equal_int_int.l0 k l0 l1 (l0.length : Int) 0) else (some false)
theorem slices_Equal_int_int.mono_l : ∀ k, (∀ y0 y1 y2 y3, LeO (slices_Equal_int_int.l0 k y0 y1 y2 y3) (slices_Equal_int_int.l0 (k + 1) y0 y1 y2 y3))
  | 0 => fun _ _ _ _ r h => by simp [slices_Equal_int_int.l0] at h
  | k + 1 => by
    have ih0 := slices_Equal_int_int.mono_l k
    · intro y0 y1 y2 y3
      unfold slices_Equal_int_int.l0
      repeat' first
      | (with_reducible exact ih0 _ _ _ _)
      | (with_reducible exact LeO.refl _)
      | (with_reducible exact LeO.none _)
      | (with_reducible refine LeO.ite ?_ ?_)
      | (with_reducible refine LeO.bind ?_ (fun _ => ?_))
      | exact ih0 _ _ _ _
      | exact LeO.none _
      | refine LeO.ite ?_ ?_
      | refine LeO.bind ?_ (fun _ => ?_)
theorem slices_Equal_int_int.mono : ∀ a0 a1 k, LeO (slices_Equal_int_int.f k a0 a1) (slices_Equal_int_int.f (k + 1) a0 a1) := by
  intro a0 a1 k
  have ih0 := slices_Equal_int_int.mono_l k
  unfold slices_Equal_int_int.f
  repeat' first
      | (with_reducible exact ih0 _ _ _ _)
      | (with_reducible exact LeO.refl _)
      | (with_reducible exact LeO.none _)
      | (with_reducible refine LeO.ite ?_ ?_)
      | (with_reducible refine LeO.bind ?_ (fun _ => ?_))
      | exact ih0 _ _ _ _
      | exact LeO.none _
      | refine LeO.ite ?_ ?_
      | refine LeO.bind ?_ (fun _ => ?_)
set_option maxHeartbeats 8000000 in
set_option maxRecDepth 100000 in
theorem slices_Equal_int_int.calls (k : Nat) (A0 : Option Addr) (c0 : Nat) (l0 : List Int) (A1 : Option Addr) (c1 : Nat) (l1 : List Int) (r : Bool) (w : World) (hr0 : Kd.C (Kd.int .i64) w A0 l0.length l0) (hc0 : l0.length ≤ c0) (hr1 : Kd.C (Kd.int .i64) w A1 l1.length l1) (hc1 : l1.length ≤ c1) (h : slices_Equal_int_int.f k l0 l1 = some r) :
    Calls Try.prog 14 #[.slice A0 l0.length c0, .slice A1 l1.length c1] w fun e w' => e = .returned (.bool r) ∧ Drawn0 w w' := by
  have HR0 := Aside0.mk hr0
  have HC0 := Aside0.mk hc0
  clear hr0 hc0
  have HR1 := Aside0.mk hr1
  have HC1 := Aside0.mk hc1
  clear hr1 hc1
  have H : (if (l0.length : Int) = (l1.length : Int) then (slices_Equal_int_int.l0 k l0 l1 (l0.length : Int) 0) else (some false)) = some r := h
  clear h
  by_cases c3 : (l0.length : Int) = (l1.length : Int)
  · rw [if_pos c3] at H
    have c3b0 : ((l0.length : Int) == (l1.length : Int)) = true := beq_iff_eq.mpr c3
    have c3b1 : ((l0.length : Int) != (l1.length : Int)) = false := bne_eq_false_iff_eq.mpr c3
    have c3b2 : (l0.length == l1.length) = true := by first | simpa using c3 | (simp at c3 ⊢; omega)
    clear c3
    have H' := Aside0.mk H
    clear H
    go_enter Try.func14, Try.ntmps14
    go_wp2
    repeat (go_quiet (fail); try go_wp2)
    go_loopg [13] k (fun kq v13 w' => ∃ (x13_1 : Int), v13 = .int .i64 x13_1 ∧ Aside0 (slices_Equal_int_int.l0 kq l0 l1 (l0.length : Int) x13_1 = some r) ∧ Aside0 (kq ≤ k) ∧ Drawn0 w w')
    case atStart => exact ⟨(0), (by first | rfl | (simp; done) | (simp [*]; done)), H', ⟨Nat.le_refl _⟩, by repeat (first | exact Drawn0.refl _ | apply Drawn0.step)⟩
    case round =>
      clear H'
      try clear c1
      try clear p2
      try clear c3
      try clear c3b0
      try clear c3b1
      try clear c3b2
      obtain ⟨x13_1, rfl, HA, HK1, ⟨m1, rfl⟩⟩ := hrel
      cases gk with
      | zero => exact absurd HA.out (by simp [slices_Equal_int_int.l0])
      | succ k1 =>
        have H := HA.out
        clear HA
        simp only [slices_Equal_int_int.l0] at H
        by_cases c4 : x13_1 < (l0.length : Int)
        · rw [if_pos c4] at H
          have c4b0 : decide (x13_1 < (l0.length : Int)) = true := decide_eq_true c4
          clear c4
          by_cases c5 : 0 ≤ x13_1
          · rw [if_pos c5] at H
            have c5b0 : decide (0 ≤ x13_1) = true := decide_eq_true c5
            clear c5
            by_cases c6 : x13_1 < (l0.length : Int)
            · rw [if_pos c6] at H
              have c6b0 : decide (x13_1 < (l0.length : Int)) = true := decide_eq_true c6
              clear c6
              by_cases c7 : x13_1 < (l1.length : Int)
              · rw [if_pos c7] at H
                have c7b0 : decide (x13_1 < (l1.length : Int)) = true := decide_eq_true c7
                clear c7
                by_cases c8 : (rd l0 x13_1) = (rd l1 x13_1)
                · rw [if_pos c8] at H
                  have c8b0 : ((rd l0 x13_1) == (rd l1 x13_1)) = true := beq_iff_eq.mpr c8
                  have c8b1 : ((rd l0 x13_1) != (rd l1 x13_1)) = false := bne_eq_false_iff_eq.mpr c8
                  clear c8
                  have H' := Aside0.mk H
                  clear H
                  have p1001 : 0 ≤ (x13_1 : Int) := of_decide_eq_true (by first | (with_reducible assumption) | assumption)
                  have q1001 : x13_1 < (l0.length : Int) := of_decide_eq_true (by first | (with_reducible assumption) | assumption)
                  obtain ⟨ad1001, e1001, hx1001_0⟩ := Kd.at_int HR0.out x13_1 p1001 q1001
                  cases e1001
                  replace p1001 := eq_true p1001
                  replace q1001 := eq_true q1001
                  have p1002 : 0 ≤ (x13_1 : Int) := of_decide_eq_true (by first | (with_reducible assumption) | assumption)
                  have q1002 : x13_1 < (l1.length : Int) := of_decide_eq_true (by first | (with_reducible assumption) | assumption)
                  obtain ⟨ad1002, e1002, hx1002_0⟩ := Kd.at_int HR1.out x13_1 p1002 q1002
                  cases e1002
                  replace p1002 := eq_true p1002
                  replace q1002 := eq_true q1002
                  go_wp2
                  repeat (go_quiet (fail); try go_wp2)
                  go_roundg k1
                  case measure => have := HK1.out; omega
                  case rel => exact ⟨(wrap64 (x13_1 + 1)), (by first | rfl | (simp; done) | (simp [*]; done)), H', ⟨by have := HK1.out; omega⟩, by repeat (first | exact Drawn0.refl _ | apply Drawn0.step)⟩
                · rw [if_neg c8] at H
                  have c8b0 : ((rd l0 x13_1) == (rd l1 x13_1)) = false := beq_eq_false_iff_ne.mpr c8
                  have c8b1 : ((rd l0 x13_1) != (rd l1 x13_1)) = true := bne_iff_ne.mpr c8
                  obtain rfl := Option.some.inj H
                  have p1001 : 0 ≤ (x13_1 : Int) := of_decide_eq_true (by first | (with_reducible assumption) | assumption)
                  have q1001 : x13_1 < (l0.length : Int) := of_decide_eq_true (by first | (with_reducible assumption) | assumption)
                  obtain ⟨ad1001, e1001, hx1001_0⟩ := Kd.at_int HR0.out x13_1 p1001 q1001
                  cases e1001
                  replace p1001 := eq_true p1001
                  replace q1001 := eq_true q1001
                  have p1002 : 0 ≤ (x13_1 : Int) := of_decide_eq_true (by first | (with_reducible assumption) | assumption)
                  have q1002 : x13_1 < (l1.length : Int) := of_decide_eq_true (by first | (with_reducible assumption) | assumption)
                  obtain ⟨ad1002, e1002, hx1002_0⟩ := Kd.at_int HR1.out x13_1 p1002 q1002
                  cases e1002
                  replace p1002 := eq_true p1002
                  replace q1002 := eq_true q1002
                  go_wp2
                  repeat (go_quiet (fail); try go_wp2)
                  go_ret
                  exact ⟨by first | rfl | (simp; done) | (simp [*]; done), by repeat (first | exact Drawn0.refl _ | apply Drawn0.step)⟩
              · rw [if_neg c7] at H
                exact absurd H (by simp)
            · rw [if_neg c6] at H
              exact absurd H (by simp)
          · rw [if_neg c5] at H
            exact absurd H (by simp)
        · rw [if_neg c4] at H
          have c4b0 : decide (x13_1 < (l0.length : Int)) = false := decide_eq_false c4
          clear c4
          obtain rfl := Option.some.inj H
          go_wp2
          repeat (go_quiet (fail); try go_wp2)
          go_ret
          exact ⟨by first | rfl | (simp; done) | (simp [*]; done), by repeat (first | exact Drawn0.refl _ | apply Drawn0.step)⟩
  · rw [if_neg c3] at H
    have c3b0 : ((l0.length : Int) == (l1.length : Int)) = false := beq_eq_false_iff_ne.mpr c3
    have c3b1 : ((l0.length : Int) != (l1.length : Int)) = true := bne_iff_ne.mpr c3
    have c3b2 : (l0.length == l1.length) = false := by first | simpa using c3 | (simp at c3 ⊢; omega)
    obtain rfl := Option.some.inj H
    go_enter Try.func14, Try.ntmps14
    go_wp2
    repeat (go_quiet (fail); try go_wp2)
    go_ret
    exact ⟨by first | rfl | (simp; done) | (simp [*]; done), by repeat (first | exact Drawn0.refl _ | apply Drawn0.step)⟩

end Go.Proofs.Ytfjafmgaahfhgaa.P
