/- Proved here: the Go function sackbutlaw02.CanonTurns returns true for every input (its printed form comes to true), whatever its arguments. Conditions: none beyond the row's own reach in memory. -/
import Derived.StillTailTactics
import Derived.Sort.QuietIn
import Derived.Laws.EntriesVeiled
import Derived.Shelf.Abstract
import Derived.Deep.QuietTactic
import Derived.BigQuiet
import Derived.Deep.RegionHeld3
import Derived.LaidMore
import Derived.Stop.Joined
import Derived.ProofKit
import Derived.OpenShut
import Derived.Test.YtkidgakjeahebaaDoorRows
import Derived.WalkKit
import Derived.ShutString
import Derived.ChangeOld
import Derived.Below
import Derived.SizedLaws
import Derived.SevenTiedAt
import Derived.Test.YtkidgakjeahebaaDoorCards
import Derived.Test.YtkidgakjeahebaaDoorTie
import Derived.Test.YtkidgakjeahebaaDoorCCanonTurns1
import Derived.Test.YtkidgakjeahebaaDoorCCanonTurns2
import Derived.Test.YtkidgakjeahebaaDoorCCanonTurns3
namespace Go.Proofs.YtkidgakjeahebaaDoor.P
open Go.RowKit Go.Proofs.YtkidgakjeahebaaDoorW.PrintWords Go.Proofs.YtkidgakjeahebaaDoorW.PrintLast Go.Proofs.YtkidgakjeahebaaDoorW.PrintMore
attribute [local go_sem] max2_int min2_int max_two min_two max_three min_three max_four min_four   -- for this text's walks alone
set_option linter.unusedVariables false
set_option linter.unusedSimpArgs false

/-! all partners, and the least one -/
theorem minStep_fold : ∀ (l : List Nat) (m : Nat), m ≠ 0 → (∀ b ∈ l, b ≠ 0) → l.foldl minStep m ≠ 0 ∧ l.foldl minStep m ∈ m :: l ∧ ∀ b ∈ m :: l, l.foldl minStep m ≤ b
  | [], m, h, _ => ⟨h, by simp, by simp⟩
  | c :: l, m, h, hl => by
    have e : minStep m c = if c < m then c else m := by unfold minStep; simp [h]
    have h1 : minStep m c ≠ 0 := by rw [e]; split; exact hl c (by simp); exact h
    obtain ⟨a1, a2, a3⟩ := minStep_fold l (minStep m c) h1 (fun b hb => hl b (by simp [hb]))
    refine ⟨a1, ?_, fun b hb => ?_⟩
    · rw [List.foldl_cons]
      rcases List.mem_cons.1 a2 with h2 | h2
      · rw [h2, e]; split <;> simp
      · simp [h2]
    · rw [List.foldl_cons]
      have h3 := a3 (minStep m c) (by simp)
      rw [List.mem_cons, List.mem_cons] at hb
      rcases hb with rfl | rfl | hb
      · have : minStep b c ≤ b := by rw [e]; split <;> omega
        omega
      · have : minStep m b ≤ b := by rw [e]; split <;> omega
        omega
      · exact a3 b (by simp [hb])
theorem minB_spec {l : List Nat} (hl : ∀ b ∈ l, b ≠ 0) (h : l ≠ []) : minB l ≠ 0 ∧ minB l ∈ l ∧ ∀ b ∈ l, minB l ≤ b := by
  cases l with
  | nil => exact absurd rfl h
  | cons c l =>
    have e : minB (c :: l) = l.foldl minStep c := by
      show l.foldl minStep (minStep 0 c) = _
      unfold minStep; simp
    rw [e]
    exact minStep_fold l c (hl c (by simp)) (fun b hb => hl b (by simp [hb]))
theorem PL_spec {n a : Nat} (hn : 1 ≤ n) (ha : a < 2 ^ n) (h0 : a.testBit 0 = true) : (PL n a).Nodup ∧ ∀ c, c ∈ PL n a ↔ (c < 2 ^ n ∧ Tiled n a c ∧ c.testBit 0 = true) := partners_spec hn ha h0 (stepOk_A ha)
theorem PL_ne {n a : Nat} (hn : 1 ≤ n) (ha : a < 2 ^ n) (h0 : a.testBit 0 = true) : ∀ b ∈ PL n a, b ≠ 0 := by
  intro b hb e
  have := ((PL_spec hn ha h0).2 b).1 hb
  rw [e] at this
  simp at this
theorem PL_some {n a : Nat} (hn : 1 ≤ n) (ha : a < 2 ^ n) (h0 : a.testBit 0 = true) : PL n a ≠ [] ↔ ∃ c, c < 2 ^ n ∧ Tiled n a c ∧ c.testBit 0 = true := by
  constructor
  · intro h
    obtain ⟨c, hc⟩ := List.exists_mem_of_ne_nil _ h
    exact ⟨c, ((PL_spec hn ha h0).2 c).1 hc⟩
  · rintro ⟨c, hc⟩ e
    have := ((PL_spec hn ha h0).2 c).2 hc
    rw [e] at this; cases this
theorem Partner_f {n a : Nat} (hv : ValidR n a) : canon_Partner.f n a = some (if PL n a = [] then (0, 4) else (((minB (PL n a) : Nat) : Int), 0)) := by
  unfold canon_Partner.f
  rw [if_pos hv]
  obtain ⟨N, A, e1, e2, h2, h24, hA, h0⟩ := validR_nat hv
  obtain rfl : n = N := by omega
  obtain rfl : a = A := by omega
  simp only [Int.toNat_natCast]
  by_cases e : PL n a = []
  · have : minI (PL n a) = 0 := by unfold minI; rw [e]; rfl
    rw [if_pos this, if_pos e]
  · have h := (minB_spec (PL_ne (by omega) hA h0) e).1
    have : minI (PL n a) ≠ 0 := by unfold minI; omega
    rw [if_neg this, if_neg e]; rfl
theorem odd_valid {n a : Nat} (hn : 2 ≤ n) (hn2 : n ≤ 24) (ha : a < 2 ^ n) (h0 : a.testBit 0 = true) : ValidR (n : Int) (a : Int) := by
  have e1 : (a : Int) < ((2 ^ n : Nat) : Int) := by omega
  rw [pow_cast] at e1
  refine ⟨by omega, by omega, by omega, by rw [Int.toNat_natCast]; exact e1, ?_⟩
  have := of_decide_eq_true ((Nat.testBit_zero a).symm.trans h0)
  omega
theorem PL_len {n a : Nat} (hn : 1 ≤ n) (ha : a < 2 ^ n) (h0 : a.testBit 0 = true) : (PL n a).length ≤ 2 ^ n := by
  have := nodup_length_le (PL n a) (List.range (2 ^ n)) (PL_spec hn ha h0).1 (fun c hc => List.mem_range.2 (((PL_spec hn ha h0).2 c).1 hc).1)
  rwa [List.length_range] at this
theorem lenI_PL {n a : Nat} (hn : 1 ≤ n) (hn2 : n ≤ 24) (ha : a < 2 ^ n) (h0 : a.testBit 0 = true) : lenI (PL n a) = (((PL n a).length : Nat) : Int) := by
  have := PL_len hn ha h0
  have := pow24 hn2
  unfold lenI
  exact wrap_id (by omega) (by omega)

end Go.Proofs.YtkidgakjeahebaaDoor.P
namespace Go.Proofs.YtkidgakjeahebaaDoor.P
open Go.RowKit Go.Proofs.YtkidgakjeahebaaDoorW.PrintWords Go.Proofs.YtkidgakjeahebaaDoorW.PrintLast Go.Proofs.YtkidgakjeahebaaDoorW.PrintMore
attribute [local go_sem] max2_int min2_int max_two min_two max_three min_three max_four min_four   -- for this text's walks alone
set_option linter.unusedVariables false
set_option linter.unusedSimpArgs false

/-! a rhythm turned has as many partners -/
theorem negN_zero {n c : Nat} (hn : 1 ≤ n) : (negN n c).testBit 0 = c.testBit 0 := by
  rw [negN_bit (by omega)]
  have : neg1 n 0 = 0 := by unfold neg1; rw [Nat.sub_zero, Nat.mod_self]
  rw [this]
theorem PL_neg_le {n a : Nat} (hn : 1 ≤ n) (ha : a < 2 ^ n) (h0 : a.testBit 0 = true) : (PL n a).length ≤ (PL n (negN n a)).length := by
  have hs := PL_spec hn ha h0
  have hs2 := PL_spec (n := n) (a := negN n a) hn (negN_lt hn) (by rw [negN_zero hn]; exact h0)
  rw [← List.length_map (f := negN n)]
  refine nodup_length_le _ _ ?_ (fun c hc => ?_)
  · refine List.Pairwise.map _ (fun x y h => h) (List.Pairwise.imp_of_mem (R := (· ≠ ·)) (fun {x y} hx hy hne e => ?_) hs.1)
    have h1 := ((hs.2 x).1 hx).1
    have h2 := ((hs.2 y).1 hy).1
    have := congrArg (negN n) e
    rw [negN_negN hn h1, negN_negN hn h2] at this
    exact hne this
  · obtain ⟨x, hx, rfl⟩ := List.mem_map.1 hc
    obtain ⟨h1, h2, h3⟩ := (hs.2 x).1 hx
    exact (hs2.2 _).2 ⟨negN_lt hn, tiled_neg ha h2, by rw [negN_zero hn]; exact h3⟩
theorem PL_neg_len {n a : Nat} (hn : 1 ≤ n) (ha : a < 2 ^ n) (h0 : a.testBit 0 = true) : (PL n (negN n a)).length = (PL n a).length := by
  have h1 := PL_neg_le hn ha h0
  have h2 := PL_neg_le (n := n) (a := negN n a) hn (negN_lt hn) (by rw [negN_zero hn]; exact h0)
  rw [negN_negN hn ha] at h2
  omega
theorem timesTo_img (n m a : Nat) : timesTo n m a n = imgSet n (fun x => m * x % n) a := rfl
theorem timesTo_neg {n a : Nat} (hn : 1 ≤ n) : timesTo n (n - 1) a n = negN n a := by
  rw [timesTo_img]
  unfold negN
  have h : ∀ x, x < n → (n - 1) * x % n = neg1 n x := fun x hx => by
    unfold neg1
    rcases Nat.eq_zero_or_pos x with e | e
    · subst e; rw [Nat.mul_zero, Nat.zero_mod, Nat.sub_zero, Nat.mod_self]
    · have : (n - 1) * x = (n - x) + n * (x - 1) := by
        obtain ⟨k, rfl⟩ : ∃ k, x = k + 1 := ⟨x - 1, by omega⟩
        rw [Nat.add_sub_cancel, Nat.sub_mul, Nat.one_mul, Nat.mul_add, Nat.mul_one]
        have := Nat.le_mul_of_pos_right (n * k) (Nat.one_pos)
        generalize n * k = q
        omega
      rw [this, Nat.add_mul_mod_self_left]
  unfold imgSet
  congr 1
  refine List.map_congr_left (fun x hx => ?_)
  exact h x (List.mem_range.1 (List.mem_filter.1 hx).1)

end Go.Proofs.YtkidgakjeahebaaDoor.P
namespace Go.Proofs.YtkidgakjeahebaaDoor.P
open Go.RowKit Go.Proofs.YtkidgakjeahebaaDoorW.PrintWords Go.Proofs.YtkidgakjeahebaaDoorW.PrintLast Go.Proofs.YtkidgakjeahebaaDoorW.PrintMore
attribute [local go_sem] max2_int min2_int max_two min_two max_three min_three max_four min_four   -- for this text's walks alone
set_option linter.unusedVariables false
set_option linter.unusedSimpArgs false

/-! the law on turned rhythms, walked by hand: two of its arguments lie in boxes, since a function of its own takes them -/
def sackbutlaw02_CanonTurns.Pure : Prop := True
/-- the law's two boxes -/
structure TwB (w : World) (n a : Int) (W : World) : Prop where
  bl : Below w.heap.size w W
  c0 : W.cell? ⟨w.heap.size, 0, none⟩ = some (.int .i64 n)
  c1 : W.cell? ⟨w.heap.size + 1, 0, none⟩ = some (.int .i64 a)
  lt : w.heap.size + 1 < W.heap.size
theorem TwB.below {w : World} {n a : Int} {W W' : World} (h : TwB w n a W) (hb : Below W.heap.size W W') : TwB w n a W' :=
  ⟨below_step h.bl hb, (hb.cell (p := ⟨w.heap.size, 0, none⟩) (by have := h.lt; simp only; omega)).trans h.c0, (hb.cell (p := ⟨w.heap.size + 1, 0, none⟩) h.lt).trans h.c1, Nat.lt_of_lt_of_le h.lt hb.size⟩
theorem TwB.drewN {w : World} {n a : Int} {W : World} (h : TwB w n a W) (q : Nat) : TwB w n a (W.drewN q) := h.below (pw_below_drewN (Below.refl _ _) q)
theorem TwB.drew {w : World} {n a : Int} {W : World} (h : TwB w n a W) : TwB w n a W.drew := h.drewN 1
theorem TwB.new (w : World) (n a : Int) : TwB w n a ((w.alloc (.cells #[.int .i64 n] 3)).alloc (.cells #[.int .i64 a] 3)) := by
  have hs : (w.alloc (.cells #[.int .i64 n] 3)).heap.size = w.heap.size + 1 := by simp [World.size_alloc]
  have h1 := (new_cell (w.alloc (.cells #[.int .i64 n] 3)) (.int .i64 a) 3).1
  rw [hs] at h1
  exact ⟨below_alloc (below_alloc (Below.refl _ _) _) _, old_cell _ (new_cell w _ _).1, h1, by simp [World.size_alloc]⟩
/-- a callee, as the law's walk takes it -/
def TwCall (w : World) (n a : Int) (f : Nat) (args : Array Value) (v : Value) : Prop := ∀ W, TwB w n a W → Calls Tryd.prog f args W fun e W' => e = .returned v ∧ TwB w n a W'
theorem TwCall.of_below {w : World} {n a : Int} {f : Nat} {args : Array Value} {v : Value} (h : ∀ W, TwB w n a W → Calls Tryd.prog f args W fun e W' => e = .returned v ∧ Below W.heap.size W W') : TwCall w n a f args v :=
  fun W hW => (h W hW).mono fun _ _ ⟨he, hb⟩ => ⟨he, hW.below hb⟩
theorem TwCall.of_drawn {w : World} {n a : Int} {f : Nat} {args : Array Value} {v : Value} (h : ∀ W, Calls Tryd.prog f args W fun e W' => e = .returned v ∧ Drawn0 W W') : TwCall w n a f args v :=
  fun W hW => (h W).mono fun _ _ ⟨he, hb⟩ => ⟨he, hW.below hb.below⟩
theorem turns_awake (w : World) (n a : Int) : TwCall w n a 11 #[] (.bool true) := by
  obtain ⟨k, hk⟩ := Ev.rounds (g := fun k => sackbutlaw02_awake.f k) awake_ev
  exact TwCall.of_below (fun W _ => sackbutlaw02_awake.calls k true W hk)
theorem turns_tiles (w : World) (n a : Int) (x y : Int) (r1 : Bool) (r2 : Int) (h : Ev (fun k => canon_Tiles.f k n x y) (r1, r2)) : TwCall w n a 17 #[.int .i64 n, .int .i64 x, .int .i64 y] (.tuple #[.bool r1, .int .i64 r2]) := by
  obtain ⟨k, hk⟩ := Ev.rounds (g := fun k => canon_Tiles.f k n x y) h
  exact TwCall.of_below (fun W _ => canon_Tiles.calls k n x y r1 r2 W hk)
set_option maxHeartbeats 8000000 in
set_option maxRecDepth 100000 in
theorem turns_bad (a0 a1 a2 a3 : Int) (w : World) (hT : Tabs w) (hv : ¬ ValidR a0 a1) : Calls Tryd.prog 5 #[.int .i64 a0, .int .i64 a1, .int .i64 a2, .int .i64 a3] w fun e w' => e = .returned (.bool true) ∧ Below w.heap.size w w' := by
  have HRH := Aside0.mk (show TwCall w a0 a1 10 #[.int .i64 a0, .int .i64 a1] (.bool false) from TwCall.of_drawn (fun W => sackbutref02_Rhythm.calls a0 a1 false W (by rw [rhythm_f, decide_eq_false hv])))
  have HPS := Aside0.mk (show TwCall w a0 a1 13 #[.int .i64 a0, .int .i64 a1] (.tuple #[.int .i64 0, .int .i64 2]) from TwCall.of_below (fun W hW => canon_Partners.calls a0 a1 0 2 W (Tabs.below hT hW.bl) (by unfold canon_Partners.f; rw [if_neg hv])))
  have HAW := Aside0.mk (turns_awake w a0 a1)
  have HT0 := Aside0.mk (TwB.new w a0 a1)
  clear hv hT
  go_enter Tryd.func5, Tryd.ntmps5
  go_wp2_with fail
  refine (HRH.out _ HT0.out).mono ?_
  rintro e w2 ⟨rfl, hT2⟩
  have c0 := hT2.c0
  have c1 := hT2.c1
  have HT2 := Aside0.mk hT2
  clear hT2
  go_wp2_with fail
  refine (HPS.out _ HT2.out).mono ?_
  rintro e w3 ⟨rfl, hT3⟩
  clear c0 c1
  have HT3 := Aside0.mk hT3
  clear hT3
  go_wp2_with fail
  refine (HAW.out _ HT3.out).mono ?_
  rintro e w4 ⟨rfl, hT4⟩
  have HT4 := Aside0.mk hT4
  clear hT4
  go_wp2
  go_ret
  exact ⟨rfl, HT4.out.bl⟩
theorem turn_num (a3 : Int) {n : Nat} (hn : 1 ≤ n) (hn2 : n ≤ 24) : ∃ m : Nat, wrap64 (1 + wrap64 ((IntKind.u64.wrap a3).tmod (n : Int))) = (m : Int) ∧ 1 ≤ m ∧ m ≤ n := by
  rw [u64_mod]
  have h1 : 0 ≤ a3 % 18446744073709551616 := Int.emod_nonneg _ (by decide)
  generalize a3 % 18446744073709551616 = z at h1
  rw [Int.tmod_eq_emod_of_nonneg h1]
  have h2 := Int.emod_nonneg z (show (n : Int) ≠ 0 by omega)
  have h3 := Int.emod_lt_of_pos z (show (0 : Int) < n by omega)
  generalize z % (n : Int) = y at h2 h3
  refine ⟨(1 + y).toNat, ?_, by omega, by omega⟩
  rw [wrap_id (n := y) (by omega) (by omega), wrap_id (by omega) (by omega)]; omega
theorem gcd_step {x y : Nat} (hy : 0 < y) : Nat.gcd y (x % y) = Nat.gcd x y := by
  rw [Nat.gcd_comm y, ← Nat.gcd_rec, Nat.gcd_comm]
set_option maxHeartbeats 8000000 in
set_option maxRecDepth 100000 in
theorem turns_good {n a : Nat} (hn : 2 ≤ n) (hn2 : n ≤ 24) (ha : a < 2 ^ n) (h0 : a.testBit 0 = true) (a2 a3 : Int) (w : World) (hT : Tabs w) : Calls Tryd.prog 5 #[.int .i64 (n : Int), .int .i64 (a : Int), .int .i64 a2, .int .i64 a3] w fun e w' => e = .returned (.bool true) ∧ Below w.heap.size w w' := by
  have hv := odd_valid hn hn2 ha h0
  have hv2 := odd_valid (a := negN n a) hn hn2 (negN_lt (by omega)) (by rw [negN_zero (by omega)]; exact h0)
  have HRH := Aside0.mk (show TwCall w n a 10 #[.int .i64 (n : Int), .int .i64 (a : Int)] (.bool true) from TwCall.of_drawn (fun W => sackbutref02_Rhythm.calls n a true W (by rw [rhythm_f, decide_eq_true hv])))
  obtain ⟨K, hK⟩ : ∃ K, K = lenI (PL n a) := ⟨_, rfl⟩
  have hK0 : ¬ K < 0 := by rw [hK, lenI_PL (by omega) hn2 ha h0]; omega
  have hK2 : lenI (PL n (negN n a)) = K := by rw [hK]; unfold lenI; rw [PL_neg_len (by omega) ha h0]
  have HPS := Aside0.mk (show TwCall w n a 13 #[.int .i64 (n : Int), .int .i64 (a : Int)] (.tuple #[.int .i64 K, .int .i64 0]) from TwCall.of_below (fun W hW => canon_Partners.calls n a K 0 W (Tabs.below hT hW.bl) (by unfold canon_Partners.f; rw [if_pos hv, Int.toNat_natCast, Int.toNat_natCast, ← hK])))
  have HPS2 := Aside0.mk (show TwCall w n a 13 #[.int .i64 (n : Int), .int .i64 (timesTo n (n - 1) a n : Int)] (.tuple #[.int .i64 K, .int .i64 0]) from TwCall.of_below (fun W hW => canon_Partners.calls n _ K 0 W (Tabs.below hT hW.bl) (by rw [timesTo_neg (by omega)]; unfold canon_Partners.f; rw [if_pos hv2, Int.toNat_natCast, Int.toNat_natCast, hK2])))
  have HCL := Aside0.mk (fun (m : Nat) (hm : m ≤ 24) W (hW : TwB w n a W) => times_calls (n := n) (a := a) (m := m) (by omega) hn2 hm ha w.heap.size (w.heap.size + 1) W hW.c0 hW.c1)
  have HAW := Aside0.mk (turns_awake w n a)
  have HT0 := Aside0.mk (TwB.new w n a)
  obtain ⟨x9, e9, t9, hP9, ht9, hKt⟩ : ∃ (x9 e9 : Int) (t9 : Bool), canon_Partner.f n a = some (x9, e9) ∧ (e9 == 0) = t9 ∧ decide (K > 0) = t9 := by
    by_cases e : PL n a = []
    · refine ⟨0, 4, false, by rw [Partner_f hv, if_pos e], rfl, ?_⟩
      rw [hK, e, lenI_nil]; rfl
    · refine ⟨_, 0, true, by rw [Partner_f hv, if_neg e], rfl, ?_⟩
      have : 0 < (PL n a).length := List.length_pos_iff.2 e
      rw [hK, lenI_PL (by omega) hn2 ha h0]
      exact decide_eq_true (by omega)
  have hKt2 : decide (0 < K) = t9 := hKt
  have HPT := Aside0.mk (show TwCall w n a 12 #[.int .i64 (n : Int), .int .i64 (a : Int)] (.tuple #[.int .i64 x9, .int .i64 e9]) from TwCall.of_below (fun W hW => canon_Partner.calls n a x9 e9 W (Tabs.below hT hW.bl) hP9))
  clear hP9
  have hmf : ∀ (fn : Fn) (first cap : Array Value) (w : World), (Instr.makeFunc fn first cap).run Tryd.prog w = .ok (.func fn first cap) w := fun _ _ _ _ => rfl
  have HN := Aside0.mk (show 2 ≤ n ∧ n ≤ 24 from ⟨hn, hn2⟩)
  have hK2' := hK2
  clear hK2
  go_enter Tryd.func5, Tryd.ntmps5
  go_wp2_with fail
  refine (HRH.out _ HT0.out).mono ?_
  rintro e w2 ⟨rfl, hT2⟩
  have c0 := hT2.c0
  have c1 := hT2.c1
  have HT2 := Aside0.mk hT2
  clear hT2
  go_wp2_with fail
  refine (HPS.out _ HT2.out).mono ?_
  rintro e w3 ⟨rfl, hT3⟩
  clear c0 c1
  have c0 := hT3.c0
  have c1 := hT3.c1
  have HT3 := Aside0.mk hT3
  clear hT3
  obtain ⟨N1, hN1⟩ : ∃ N1, N1 = n - 1 := ⟨_, rfl⟩
  obtain ⟨tv, htv⟩ : ∃ tv, tv = timesTo n (n - 1) a n := ⟨_, rfl⟩
  rw [← htv] at HPS2
  have e1 : (n : Int) - 1 = (N1 : Int) := by omega
  have e2 : IntKind.i64.wrap (N1 : Int) = (N1 : Int) := i64_id (by omega) (by omega)
  have HCLr := Aside0.mk (fun (W1 : World) (hb : Below w3.heap.size w3 W1) => (HCL.out N1 (by omega) W1 (HT3.out.below hb)).mono (fun e W2 (h : e = .returned (.int .i64 (timesTo n N1 a n : Int)) ∧ W2 = W1) => show e = .returned (.int .i64 (tv : Int)) ∧ (W2.cell? ⟨w.heap.size, 0, none⟩ = some (.int .i64 (n : Int)) ∧ W2.cell? ⟨w.heap.size + 1, 0, none⟩ = some (.int .i64 (a : Int))) ∧ Below w3.heap.size w3 W2 from by
    obtain ⟨h1, rfl⟩ := h
    exact ⟨by rw [h1, htv, hN1], ⟨(HT3.out.below hb).c0, (HT3.out.below hb).c1⟩, hb⟩))
  have HPSr := Aside0.mk (fun (W1 : World) (hb : Below w3.heap.size w3 W1 ∧ TwB w n a W1) => (HPS2.out W1 hb.2))
  have HPSs := Aside0.mk (fun (W1 : World) (hb : Below w3.heap.size w3 W1) => (canon_Partners.calls n (tv : Int) K 0 W1 (Tabs.below hT (HT3.out.below hb).bl) (by rw [htv, timesTo_neg (by omega)]; unfold canon_Partners.f; rw [if_pos hv2, Int.toNat_natCast, Int.toNat_natCast, hK2'])).mono (fun e W2 (h : e = .returned (.tuple #[.int .i64 K, .int .i64 0]) ∧ Below W1.heap.size W1 W2) => show e = .returned (.tuple #[.int .i64 K, .int .i64 0]) ∧ (W2.cell? ⟨w.heap.size, 0, none⟩ = some (.int .i64 (n : Int)) ∧ W2.cell? ⟨w.heap.size + 1, 0, none⟩ = some (.int .i64 (a : Int))) ∧ Below w3.heap.size w3 W2 from
    ⟨h.1, ⟨((HT3.out.below hb).below h.2).c0, ((HT3.out.below hb).below h.2).c1⟩, below_step hb h.2⟩))
  have hb0 : Below w3.heap.size w3 w3.drew := below_drew (Below.refl _ _)
  clear HPSr
  clear hN1 htv hv hv2 hT hK hK2'
  go_wp2_with fail
  go_region_held3 (fun w' => w'.cell? ⟨w.heap.size, 0, none⟩ = some (.int .i64 (n : Int)) ∧ w'.cell? ⟨w.heap.size + 1, 0, none⟩ = some (.int .i64 (a : Int)) ∧ Below w3.heap.size w3 w') (go_keep)
    (first
      | (go_at_call 16; refine (HCLr.out _ ?_).mono ?_; (simp [*]); rintro e w' ⟨rfl, ⟨k0, k1⟩, kb⟩)
      | (go_at_call 13; refine (HPSs.out _ ?_).mono ?_; (simp [*]); rintro e w' ⟨rfl, ⟨k0, k1⟩, kb⟩))
  have HT6 := Aside0.mk (HT3.out.below kb)
  clear c0 c1 k0 k1 kb hb0
  have c0 := HT6.out.c0
  have c1 := HT6.out.c1
  go_wp2_with fail
  refine (HPT.out _ HT6.out).mono ?_
  rintro e w9 ⟨rfl, hT9⟩
  clear c0 c1
  have c0 := hT9.c0
  have c1 := hT9.c1
  have HT9 := Aside0.mk hT9
  clear hT9
  go_wp2_with fail
  by_cases hcase : ValidR n a2 ∧ Tiled n a a2.toNat
  · obtain ⟨hvb, htile⟩ := hcase
    have htl : Ev (fun k => canon_Tiles.f k n a a2) (true, 0) := by
      have h := Tiles_ev n a a2
      rw [if_pos ⟨odd_valid HN.out.1 HN.out.2 ha h0, hvb⟩, Int.toNat_natCast, Int.toNat_natCast, decide_eq_true htile] at h
      exact h
    have HTL := Aside0.mk (turns_tiles w n a a a2 true 0 htl)
    have HVB := Aside0.mk hvb
    have HTILE := Aside0.mk htile
    clear htl hvb htile
    refine (HTL.out _ HT9.out).mono ?_
    rintro e w12 ⟨rfl, hT12⟩
    clear c0 c1
    have c0 := hT12.c0
    have c1 := hT12.c1
    have HT12 := Aside0.mk hT12
    clear hT12
    go_wp2
    obtain ⟨m, hm, hm1, hm2⟩ := turn_num a3 (n := n) (by omega) HN.out.2
    rw [hm]
    have HM := Aside0.mk (show 1 ≤ m ∧ m ≤ n from ⟨hm1, hm2⟩)
    clear hm hm1 hm2
    go_quiet (fail)
    generalize hw16 : w12.drewN _ = w16
    have HT16 := Aside0.mk (show TwB w n a w16 from by rw [← hw16]; exact HT12.out.drewN _)
    clear hw16 c0 c1
    have c0 := HT16.out.c0
    have c1 := HT16.out.c1
    go_wp2
    go_loopg [17, 18] (n + 1) (fun gg s17 s18 wr => ∃ x y q : Nat, s17 = .int .i64 x ∧ s18 = .int .i64 y ∧ wr = w16.drewN q ∧ Aside0 (Nat.gcd x y = Nat.gcd m n) ∧ Aside0 (y < gg ∧ x ≤ 24 ∧ y ≤ 24))
    case atStart => exact ⟨m, n, 0, rfl, rfl, rfl, ⟨rfl⟩, ⟨⟨Nat.lt_succ_self _, by have := HM.out; have := HN.out; omega, HN.out.2⟩⟩⟩
    case round =>
      obtain ⟨x, y, q, rfl, rfl, rfl, HG, HY⟩ := hrel
      by_cases hy : y = 0
      · have hgx : x = Nat.gcd m n := by rw [← HG.out, hy, Nat.gcd_zero_right]
        have HGX := Aside0.mk hgx
        subst hy
        clear hgx c0 c1
        have HTx := Aside0.mk (HT16.out.drewN q)
        generalize w16.drewN q = w20 at HTx ⊢
        have c0 := HTx.out.c0
        have c1 := HTx.out.c1
        by_cases hx1 : x = 1
        · have HCO := Aside0.mk (show Nat.Coprime m n from by rw [hx1] at HGX; exact HGX.out.symm)
          subst hx1
          obtain ⟨tm, htm⟩ : ∃ tm, tm = timesTo n m a n := ⟨_, rfl⟩
          have HTT := Aside0.mk (show Ev (fun k => canon_Tiles.f k n (tm : Int) a2) (true, 0) from by
            obtain ⟨N', b, e1, e2, _, _, hb, hb0⟩ := validR_nat HVB.out
            obtain rfl : n = N' := by omega
            have htl := HTILE.out
            rw [e2, Int.toNat_natCast] at htl
            have ht := times_tiled (by omega) HM.out.1 (by have := HM.out; have := HN.out; omega) HCO.out ha hb htl
            rw [← timesTo_img, ← htm] at ht
            have htlt : tm < 2 ^ n := by rw [htm]; exact timesTo_lt (by omega) n
            have ht0 : tm.testBit 0 = true := by
              rw [htm, timesTo_img]
              exact imgSet_bit.2 ⟨0, by omega, h0, by rw [Nat.mul_zero, Nat.zero_mod]⟩
            have h := Tiles_ev n (tm : Int) a2
            rw [if_pos ⟨odd_valid HN.out.1 HN.out.2 htlt ht0, HVB.out⟩, e2, Int.toNat_natCast, Int.toNat_natCast, Int.toNat_natCast, decide_eq_true ht] at h
            rw [e2]; exact h)
          have HTC := Aside0.mk (turns_tiles w n a tm a2 true 0 HTT.out)
          have HCLr2 := Aside0.mk (fun (W1 : World) (hb : Below w20.heap.size w20 W1) => (HCL.out m (by have := HM.out; have := HN.out; omega) W1 (HTx.out.below hb)).mono (fun e W2 (h : e = .returned (.int .i64 (timesTo n m a n : Int)) ∧ W2 = W1) => show e = .returned (.int .i64 (tm : Int)) ∧ (W2.cell? ⟨w.heap.size, 0, none⟩ = some (.int .i64 (n : Int)) ∧ W2.cell? ⟨w.heap.size + 1, 0, none⟩ = some (.int .i64 (a : Int))) ∧ Below w20.heap.size w20 W2 from by
            obtain ⟨h1, rfl⟩ := h
            exact ⟨by rw [h1, htm], ⟨(HTx.out.below hb).c0, (HTx.out.below hb).c1⟩, hb⟩))
          have HTCr := Aside0.mk (show ∀ (W1 : World), Below w20.heap.size w20 W1 → Calls Tryd.prog 17 #[.int .i64 (n : Int), .int .i64 (tm : Int), .int .i64 a2] W1 fun e W2 => e = .returned (.tuple #[.bool true, .int .i64 0]) ∧ (W2.cell? ⟨w.heap.size, 0, none⟩ = some (.int .i64 (n : Int)) ∧ W2.cell? ⟨w.heap.size + 1, 0, none⟩ = some (.int .i64 (a : Int))) ∧ Below w20.heap.size w20 W2 from fun W1 hb => by
            obtain ⟨k, hk⟩ := Ev.rounds (g := fun k => canon_Tiles.f k n (tm : Int) a2) HTT.out
            refine (canon_Tiles.calls k n (tm : Int) a2 true 0 W1 hk).mono (fun e W2 h => ?_)
            have h2 := (HTx.out.below hb).below h.2
            exact ⟨h.1, ⟨h2.c0, h2.c1⟩, below_step hb h.2⟩)
          have hb0 : Below w20.heap.size w20 w20.drew := below_drew (Below.refl _ _)
          clear htm
          go_wp2_with fail
          go_region_held3 (fun w' => w'.cell? ⟨w.heap.size, 0, none⟩ = some (.int .i64 (n : Int)) ∧ w'.cell? ⟨w.heap.size + 1, 0, none⟩ = some (.int .i64 (a : Int)) ∧ Below w20.heap.size w20 w') (go_keep)
            (first
              | (go_at_call 16; refine (HCLr2.out _ ?_).mono ?_; (simp [*]); rintro e w' ⟨rfl, ⟨k0, k1⟩, kb⟩)
              | (go_at_call 17; refine (HTCr.out _ ?_).mono ?_; (simp [*]); rintro e w' ⟨rfl, ⟨k0, k1⟩, kb⟩))
          have HT12 := Aside0.mk (HTx.out.below kb)
          clear c0 c1 k0 k1 kb hb0
          go_wp2_with fail
          refine (HAW.out _ HT12.out).mono ?_
          rintro e w13 ⟨rfl, hT13⟩
          have HT13 := Aside0.mk hT13
          clear hT13
          go_wp2
          go_ret
          exact ⟨rfl, HT13.out.bl⟩
        · have hx2 : ((x : Int) != 1) = true := bne_iff_ne.2 (by omega)
          have hx3 : ¬ (x : Int) = 1 := by omega
          go_wp2_with fail
          refine (HAW.out _ HTx.out).mono ?_
          rintro e w13 ⟨rfl, hT13⟩
          have HT13 := Aside0.mk hT13
          clear hT13
          go_wp2
          go_ret
          exact ⟨rfl, HT13.out.bl⟩
      · have hyne : ((y : Int) != 0) = true := bne_iff_ne.2 (by omega)
        have hyz : ((y : Int) == 0) = false := beq_eq_false_iff_ne.2 (by omega)
        obtain ⟨z, hz⟩ : ∃ z, z = x % y := ⟨_, rfl⟩
        have ht : Int.tmod (x : Int) (y : Int) = (z : Int) := by rw [Int.tmod_eq_emod_of_nonneg (by omega), hz]; rfl
        have ht2 : (x : Int) % (y : Int) = (z : Int) := by rw [hz]; rfl
        have HZ := Aside0.mk hz
        have HYP := Aside0.mk (show 0 < y by omega)
        clear hz c0 c1
        go_wp2
        go_quiet (fail)
        go_wp2
        go_roundg (gk - 1)
        case measure => have := HY.out; omega
        case rel =>
          refine ⟨y, z, _, rfl, rfl, World.drewN_drewN _ _ _, ⟨by rw [HZ.out, gcd_step HYP.out]; exact HG.out⟩, ⟨⟨?_, ?_, ?_⟩⟩⟩
          · have h1 := Nat.mod_lt x HYP.out; have := HY.out; rw [HZ.out]; omega
          · exact HY.out.2.2
          · have h1 := Nat.mod_lt x HYP.out; have := HY.out; rw [HZ.out]; omega
  · obtain ⟨e, he, htl⟩ : ∃ e : Int, (e = 0 ∨ e = 2) ∧ Ev (fun k => canon_Tiles.f k n a a2) (false, e) := by
      have h := Tiles_ev n a a2
      by_cases h2 : ValidR n a2
      · rw [if_pos ⟨odd_valid HN.out.1 HN.out.2 ha h0, h2⟩, Int.toNat_natCast, Int.toNat_natCast, decide_eq_false (fun h3 => hcase ⟨h2, h3⟩)] at h
        exact ⟨0, .inl rfl, h⟩
      · rw [if_neg (fun h3 => h2 h3.2)] at h
        exact ⟨2, .inr rfl, h⟩
    have HTL := Aside0.mk (turns_tiles w n a a a2 false e htl)
    clear htl hcase
    refine (HTL.out _ HT9.out).mono ?_
    rintro e w12 ⟨rfl, hT12⟩
    have HT12 := Aside0.mk hT12
    clear hT12 c0 c1
    rcases he with rfl | rfl
    · go_wp2_with fail
      refine (HAW.out _ HT12.out).mono ?_
      rintro e w13 ⟨rfl, hT13⟩
      have HT13 := Aside0.mk hT13
      clear hT13
      go_wp2
      go_ret
      exact ⟨rfl, HT13.out.bl⟩
    · go_wp2_with fail
      refine (HAW.out _ HT12.out).mono ?_
      rintro e w13 ⟨rfl, hT13⟩
      have HT13 := Aside0.mk hT13
      clear hT13
      go_wp2
      go_ret
      exact ⟨rfl, HT13.out.bl⟩
theorem sackbutlaw02_CanonTurns.walk (P : sackbutlaw02_CanonTurns.Pure) (a0 a1 a2 a3 : Int) (w : World) (hT : Tabs w) (w0 : (Lit.int .i64 a0).wf = true) (w1 : (Lit.int .i64 a1).wf = true) (w2 : (Lit.int .i64 a2).wf = true) (w3 : (Lit.int .i64 a3).wf = true) :
    Calls Tryd.prog 5 #[.int .i64 a0, .int .i64 a1, .int .i64 a2, .int .i64 a3] w fun e w' => e = .returned (.bool true) ∧ Below w.heap.size w w' := by
  by_cases hv : ValidR a0 a1
  · obtain ⟨n, a, rfl, rfl, h2, h24, hA, h0⟩ := validR_nat hv
    exact turns_good h2 h24 hA h0 a2 a3 w hT
  · exact turns_bad a0 a1 a2 a3 w hT hv

end Go.Proofs.YtkidgakjeahebaaDoor.P
namespace Go.Proofs.YtkidgakjeahebaaDoor.P
open Go.RowKit Go.Proofs.YtkidgakjeahebaaDoorW.PrintWords Go.Proofs.YtkidgakjeahebaaDoorW.PrintLast Go.Proofs.YtkidgakjeahebaaDoorW.PrintMore
attribute [local go_sem] max2_int min2_int max_two min_two max_three min_three max_four min_four   -- for this text's walks alone
set_option linter.unusedVariables false
set_option linter.unusedSimpArgs false

theorem CanonTurns : sackbutlaw02_CanonTurns.Pure := trivial

end Go.Proofs.YtkidgakjeahebaaDoor.P
namespace Go.Proofs.YtkidgakjeahebaaDoor.Pure
theorem CanonTurns : Go.Proofs.YtkidgakjeahebaaDoor.P.sackbutlaw02_CanonTurns.Pure := Go.Proofs.YtkidgakjeahebaaDoor.P.CanonTurns
end Go.Proofs.YtkidgakjeahebaaDoor.Pure
namespace Go.Proofs.YtkidgakjeahebaaDoor.P
open Go.RowKit Go.Proofs.YtkidgakjeahebaaDoorW.PrintWords Go.Proofs.YtkidgakjeahebaaDoorW.PrintLast Go.Proofs.YtkidgakjeahebaaDoorW.PrintMore
attribute [local go_sem] max2_int min2_int max_two min_two max_three min_three max_four min_four   -- for this text's walks alone
set_option linter.unusedVariables false
set_option linter.unusedSimpArgs false

open Go.ChangeShapes Go.WideShapes Go.ChangeAt Go.WideElems
/-! what the row's listed tables give the walks -/
def doorLaid2 : List (String × DataW Unit) := [("math/bits.deBruijn32tab", Rows.laid_math_bits_deBruijn32tab), ("math/bits.deBruijn64tab", Rows.laid_math_bits_deBruijn64tab)]
theorem door_g64 : Tryd.prog.globalNamed "math/bits.deBruijn64tab" = some 1 := by kernel_rfl
theorem door_t64 : (Tryd.prog.globals[1]?).map (·.type) = some 85 := by kernel_rfl
theorem door_met (os : Os) (args : Array Value) : laidMetH Tryd.prog doorLaid2 ((World.doorLaid Tryd.prog 19 os).forCall (fun _ _ => 0) ⟨#[], args, []⟩).memory :=
  laidMetH_of_parts3 (fuel := 8) (laidMet_of_run' 8 (by kernel_rfl) (by kernel_rfl)) (by kernel_rfl) (by kernel_rfl)
theorem door_tab : (Rows.laid_math_bits_deBruijn64tab : DataW Unit) = .agg (tzTab.map fun (n : Nat) => .lit (.int .u8 (n : Int))) := rfl
theorem door_c8 : Tryd.prog.cellsOf 5 = 1 := by kernel_rfl
theorem tabs_of_laid {W : World} (h : laidMetH Tryd.prog doorLaid2 W) : Tabs W := by
  rw [MakeChecks.laidMetH_plain _ _ _ (by kernel_rfl)] at h
  obtain ⟨ps, ⟨g0, t0, cs0, f0, p0, q0, hg0, ht0, hv0, hd0, ⟨g1, t1, cs1, f1, p1, q1, hg1, ht1, hv1, hd1, _, _⟩, _⟩, _, _⟩ := h
  obtain rfl := Option.some.inj (door_g64.symm.trans hg1)
  obtain rfl := Option.some.inj (door_t64.symm.trans ht1)
  obtain ⟨xs, m1, rfl, hx1, hlen, hn, hel⟩ := DataW.trod_array Tryd.underlying85 hd1
  simp only [Prod.mk.injEq] at hx1
  have hl := hx1.1
  rw [door_tab] at hl
  simp only [DataW.agg.injEq] at hl
  intro i hi
  have h0 := hel i hi
  obtain ⟨x, hx⟩ : ∃ x, xs[i]? = some x := ⟨xs[i], by simp [hn, hi]⟩
  rw [hx] at h0
  obtain ⟨k, e1, e2, _⟩ := DataW.trod_int Tryd.underlying5 h0
  have hk := congrArg (fun l => l[i]?) hl
  simp only [List.getElem?_map, hx, Option.map_some, e2] at hk
  have ht : tzTab[i]? = some (tzTab.getD i 0) := by
    rw [List.getD_eq_getElem?_getD]
    have hlen : tzTab.length = 64 := by decide
    rw [List.getElem?_eq_getElem (by omega)]; rfl
  rw [ht] at hk
  simp only [Option.map_some, Option.some.injEq, DataW.lit.injEq, Lit.int.injEq, true_and] at hk
  rw [door_c8, Nat.mul_one] at e1
  have hc := World.var?_cell hg1 hv1 i
  rw [hc]
  have : cs1.toList[i]? = some (.int .u8 k) := by
    have := congrArg (fun l => l[0]?) e1
    simpa using this
  rw [← Array.getElem?_toList, this, hk]

end Go.Proofs.YtkidgakjeahebaaDoor.P
namespace Go.Proofs.YtkidgakjeahebaaDoor.canonTurns
open Go.ChangeShapes Go.WideShapes Go.ChangeAt Go.RowKit
open Go.ChangeMaps (open_string shut_string)
set_option linter.unusedVariables false
theorem own : ownKnob Tryd.prog.godebug = none := by kernel_rfl
set_option maxRecDepth 100000 in
theorem lifted (os : Os) (started : os.Started) (H : Type) (enc : TypeId × Value → H) :
    ReturnsInHanded {} Tryd.checked os 5 .any (fun w args => (Rows.canonTurnsSpec.pre enc Tryd.prog Tryd.f5 [] false w args ∧ laidMetH Tryd.prog P.doorLaid2 w) ∧ sizedMet enc Tryd.prog Tryd.f5 (OpenSpec.ofChange Rows.canonTurnsSpec) false w args) (Rows.canonTurnsSpec.post enc Tryd.prog Tryd.f5 false true false false) := by
  refine returnsInHanded_of_change_and (C := Tryd.checked) (X := fun w _ => laidMetH Tryd.prog P.doorLaid2 w) (fun _ _ _ hh h => h.of_heap hh) own started (by kernel_rfl) Tryd.func5
    (ChangeSpec.witness_shaped (enc := enc) (C := Tryd.checked) (os := os) (X := fun w _ => laidMetH Tryd.prog P.doorLaid2 w) false (World.doorLaid Tryd.prog 19 os) #[.int .i64 0, .int .i64 0, .int .i64 0, .int .i64 0] 8 rfl (World.shaped_of_RefB (by kernel_rfl) (by kernel_rfl)) (by kernel_rfl) (by kernel_rfl) (by kernel_rfl) (P.door_met os _)) ?_
  intro W base args ds gs before hval0 hW hcnd hsz0 hL _
  have hsz : (DataW.weightsEach Tryd.prog (Tryd.f5.params.toList ++ Rows.canonTurnsSpec.plain.varTypes Tryd.prog) (ds ++ gs)).all (· ≤ reachBytes) = true := hsz0
  have hval : ∀ (j : Nat) t v, Tryd.f5.params[j]? = some t → args[j]? = some v → Value.okWide Tryd.prog W .any base t v := hval0
  have hW' := hW
  obtain ⟨p, q, hA0, hV, rfl, hfz, hnd⟩ := hW
  have hA : DataW.TrodAll enc Tryd.prog W 0 (fun _ => true) true Tryd.f5.params.toList args.toList ds p := hA0
  rw [Tryd.params5] at hA hval hsz
  obtain ⟨v0, vs0, d0, ds0, p0, q0, hargs, rfl, rfl, h0, r0⟩ := trodAll_cons hA
  obtain ⟨v1, vs1, d1, ds1, p1, q1, rfl, rfl, rfl, h1, r1⟩ := trodAll_cons r0
  obtain ⟨v2, vs2, d2, ds2, p2, q2, rfl, rfl, rfl, h2, r2⟩ := trodAll_cons r1
  obtain ⟨v3, vs3, d3, ds3, p3, q3, rfl, rfl, rfl, h3, r3⟩ := trodAll_cons r2
  obtain ⟨rfl, rfl, rfl⟩ := trodAll_nil r3
  obtain rfl : args = #[v0, v1, v2, v3] := by cases args; simp_all
  obtain ⟨rfl, rfl⟩ := trodVars_none hV
  obtain ⟨a0, rfl, rfl, rfl, w0⟩ := open_int Tryd.underlying3 (hval 0 3 v0 rfl rfl) h0
  obtain ⟨a1, rfl, rfl, rfl, w1⟩ := open_int Tryd.underlying3 (hval 1 3 v1 rfl rfl) h1
  obtain ⟨a2, rfl, rfl, rfl, w2⟩ := open_int Tryd.underlying3 (hval 2 3 v2 rfl rfl) h2
  obtain ⟨a3, rfl, rfl, rfl, w3⟩ := open_int Tryd.underlying3 (hval 3 3 v3 rfl rfl) h3
  clear hA0 hval0 hsz0 hsz
  refine (P.sackbutlaw02_CanonTurns.walk Pure.CanonTurns a0 a1 a2 a3 W (P.tabs_of_laid hL) w0 w1 w2 w3).mono fun e W' ⟨he, bel⟩ => ?_
  subst he
  exact ⟨_, rfl, _, _, _, [], _, [], hW', trodAll_mk1 (shut_bool Tryd.underlying4 _), (trodAll_cons_mk (shut_int Tryd.underlying3 w0) (trodAll_cons_mk (shut_int Tryd.underlying3 w1) (trodAll_cons_mk (shut_int Tryd.underlying3 w2) (trodAll_cons_mk (shut_int Tryd.underlying3 w3) trodAll_mk0)))), rfl, bel.frame _, fun h => by cases h⟩
theorem over : Rows.canonTurnsRow.holds Tryd.pinned (OpenSpec.ofChange Rows.canonTurnsSpec) :=
  OpenClaim.holds_of_wide 5 Tryd.f5 rfl rfl rfl rfl rfl rfl rfl ⟨rfl, rfl, rfl, rfl, rfl⟩ rfl rfl rfl rfl rfl (by kernel_rfl) Tryd.func5 (by kernel_rfl)
    (of_decide_eq_true (by kernel_rfl)) (by unfold Func.isWrapper; first | (rw [if_pos (by decide +kernel)]; kernel_rfl) | (rw [if_neg (by decide +kernel)]; exact ⟨rfl, rfl⟩))
    (fun os started H enc _ => lifted os started H enc)
theorem proved : Rows.CanonTurnsSaid := over
#print axioms proved
end Go.Proofs.YtkidgakjeahebaaDoor.canonTurns
namespace Go.Proofs.YtkidgakjeahebaaDoor
theorem canonTurns_row : Rows.CanonTurnsSaid := canonTurns.proved
/-- The tied card, for the claim. -/
theorem canonTurns_holds : Rows.CanonTurnsCardSaid :=
  Claim7.holds_tied_plain_at .later [] [.data, .data] true (true, "2f6bef5c5cfa684a08fccc7872b5524e7a2ff07ef34c06b0423e6453ed67e790") false
    canonTurns_row (fun _ h => by cases h) (by kernel_rfl) (fun _ h => by cases h) canonTurns_row_tie rfl ⟨rfl, rfl⟩ (by kernel_rfl) rfl
    (fun f fn hf hfn => by
      obtain rfl : f = 5 := Option.some.inj ((show Tryd.prog.funcNamed "sackbut/sackbutlaw02.CanonTurns" = some 5 by kernel_rfl).symm.trans hf) |>.symm
      obtain rfl : fn = Tryd.f5 := (Option.some.inj (Tryd.func5.symm.trans hfn)).symm
      exact ⟨by kernel_rfl, fun j t ht => by
        rw [Tryd.params5] at ht
        have hm : t ∈ [3, 3, 3, 3] := by simpa using Array.mem_of_getElem? ht
        have hall : ([3, 3, 3, 3].all fun u => !Tryd.prog.wantsStandIn u) = true := by kernel_rfl
        exact (show Tryd.prog.wantsStandIn t = false by simpa using List.all_eq_true.1 hall t hm)⟩)
    (by kernel_rfl)
end Go.Proofs.YtkidgakjeahebaaDoor
