/- Proved here: the Go function sackbuttop.TopImages returns true for every input (its printed form comes to true), whatever its arguments. Conditions: none beyond the row's own reach in memory. -/
import Derived.Lib.SlicesCompact
import Derived.LaidMore
import Derived.Stop.Joined
import Derived.ProofKit
import Derived.OpenShut
import Derived.Test.YtfpnojcbhbkfaaaDoorRows
import Derived.WalkKit
import Derived.ShutString
import Derived.ChangeOld
import Derived.Below
import Derived.SizedLaws
import Derived.SevenTiedAt
import Derived.Test.YtfpnojcbhbkfaaaDoorCards
import Derived.Test.YtfpnojcbhbkfaaaDoorTie
import Derived.Test.YtfpnojcbhbkfaaaDoorCTopImages1
import Derived.Test.YtfpnojcbhbkfaaaDoorCTopImages2
import Derived.Test.YtfpnojcbhbkfaaaDoorCTopImages3
import Derived.Test.YtfpnojcbhbkfaaaDoorCTopImages4
import Derived.Test.YtfpnojcbhbkfaaaDoorCTopImages5
import Derived.Test.YtfpnojcbhbkfaaaDoorCTopImages6
import Derived.Test.YtfpnojcbhbkfaaaDoorCTopImages7
namespace Go.Proofs.YtfpnojcbhbkfaaaDoor.P
open Go.RowKit Go.Proofs.YtfpnojcbhbkfaaaDoorW.PrintWords Go.Proofs.YtfpnojcbhbkfaaaDoorW.PrintLast Go.Proofs.YtfpnojcbhbkfaaaDoorW.PrintMore
attribute [local go_sem] max2_int min2_int max_two min_two max_three min_three max_four min_four   -- for this text's walks alone
set_option linter.unusedVariables false
set_option linter.unusedSimpArgs false

/-! ### sackbutref01_Size: function 32 -/
def sackbutref01_Size.l0 : Nat → Int → Int → Option (Int)
  | 0, _, _ => none
  | k + 1, x0, x3 => if x0 > 0 then (sackbutref01_Size.l0 k (Go.bits .and .i64 x0 (wrap64 (x0 - 1))) (wrap64 (x3 + 1))) else (some x3)
def sackbutref01_Size.f (k : Nat) (a0 : Int) : Option (Int) := sackbutref01_Size.l0 k a0 0
theorem sackbutref01_Size.mono_l : ∀ k, (∀ y0 y1, LeO (sackbutref01_Size.l0 k y0 y1) (sackbutref01_Size.l0 (k + 1) y0 y1))
  | 0 => fun _ _ r h => by simp [sackbutref01_Size.l0] at h
  | k + 1 => by
    have ih0 := sackbutref01_Size.mono_l k
    · intro y0 y1
      unfold sackbutref01_Size.l0
      repeat' first
      | (with_reducible exact ih0 _ _)
      | (with_reducible exact LeO.refl _)
      | (with_reducible exact LeO.none _)
      | (with_reducible refine LeO.ite ?_ ?_)
      | (with_reducible refine LeO.bind ?_ (fun _ => ?_))
      | exact ih0 _ _
      | exact LeO.none _
      | refine LeO.ite ?_ ?_
      | refine LeO.bind ?_ (fun _ => ?_)
theorem sackbutref01_Size.mono : ∀ a0 k, LeO (sackbutref01_Size.f k a0) (sackbutref01_Size.f (k + 1) a0) := by
  intro a0 k
  have ih0 := sackbutref01_Size.mono_l k
  unfold sackbutref01_Size.f
  repeat' first
      | (with_reducible exact ih0 _ _)
      | (with_reducible exact LeO.refl _)
      | (with_reducible exact LeO.none _)
      | (with_reducible refine LeO.ite ?_ ?_)
      | (with_reducible refine LeO.bind ?_ (fun _ => ?_))
      | exact ih0 _ _
      | exact LeO.none _
      | refine LeO.ite ?_ ?_
      | refine LeO.bind ?_ (fun _ => ?_)
set_option maxHeartbeats 8000000 in
set_option maxRecDepth 100000 in
theorem sackbutref01_Size.calls (k : Nat) (a0 : Int) (r : Int) (w : World) (h : sackbutref01_Size.f k a0 = some r) :
    Calls Tryd.prog 32 #[.int .i64 a0] w fun e w' => e = .returned (.int .i64 r) ∧ Drawn0 w w' := by
  have H : (sackbutref01_Size.l0 k a0 0) = some r := h
  clear h
  have H' := Aside0.mk H
  clear H
  go_enter Tryd.func32, Tryd.ntmps32
  go_wp2
  go_loopg [0, 3] k (fun kq v0 v3 w' => ∃ (x0_1 : Int) (x3_1 : Int), v0 = .int .i64 x0_1 ∧ v3 = .int .i64 x3_1 ∧ Aside0 (sackbutref01_Size.l0 kq x0_1 x3_1 = some r) ∧ Aside0 (kq ≤ k) ∧ Drawn0 w w')
  case atStart => exact ⟨(a0), (0), (by first | rfl | (simp; done) | (simp [*]; done)), (by first | rfl | (simp; done) | (simp [*]; done)), H', ⟨Nat.le_refl _⟩, by repeat (first | exact Drawn0.refl _ | apply Drawn0.step)⟩
  case round =>
    clear H'
    obtain ⟨x0_1, x3_1, rfl, rfl, HA, HK1, ⟨m1, rfl⟩⟩ := hrel
    cases gk with
    | zero => exact absurd HA.out (by simp [sackbutref01_Size.l0])
    | succ k1 =>
      have H := HA.out
      clear HA
      simp only [sackbutref01_Size.l0] at H
      by_cases c2 : x0_1 > 0
      · rw [if_pos c2] at H
        have c2b0 : decide (0 < x0_1) = true := decide_eq_true c2
        clear c2
        have H' := Aside0.mk H
        clear H
        go_wp2
        go_roundg k1
        case measure => have := HK1.out; omega
        case rel => exact ⟨(Go.bits .and .i64 x0_1 (wrap64 (x0_1 - 1))), (wrap64 (x3_1 + 1)), (by first | rfl | (simp; done) | (simp [*]; done)), (by first | rfl | (simp; done) | (simp [*]; done)), H', ⟨by have := HK1.out; omega⟩, by repeat (first | exact Drawn0.refl _ | apply Drawn0.step)⟩
      · rw [if_neg c2] at H
        have c2b0 : decide (0 < x0_1) = false := decide_eq_false c2
        clear c2
        obtain rfl := Option.some.inj H
        go_wp2
        go_ret
        exact ⟨by first | rfl | (simp; done) | (simp [*]; done), by repeat (first | exact Drawn0.refl _ | apply Drawn0.step)⟩

end Go.Proofs.YtfpnojcbhbkfaaaDoor.P
namespace Go.Proofs.YtfpnojcbhbkfaaaDoor.P
open Go.RowKit Go.Proofs.YtfpnojcbhbkfaaaDoorW.PrintWords Go.Proofs.YtfpnojcbhbkfaaaDoorW.PrintLast Go.Proofs.YtfpnojcbhbkfaaaDoorW.PrintMore
attribute [local go_sem] max2_int min2_int max_two min_two max_three min_three max_four min_four   -- for this text's walks alone
set_option linter.unusedVariables false
set_option linter.unusedSimpArgs false

/-! turned chords -/
theorem nextC_w {d : Nat} (h : d ≤ 1000) : wrap64 ((d : Int) + 1) = ((d + 1 : Nat) : Int) := by rw [wrap_id (by omega) (by omega)]; omega
theorem modC_nat {n d : Nat} (h : d < n) : ((d : Int) % (n : Int)).toNat = d := by rw [Int.emod_eq_of_lt (by omega) (by omega)]; omega
noncomputable def turnN (n c : Nat) : Nat := imgN (toN negTo n) c
theorem turnN_lt {n c : Nat} (hn : 1 ≤ n) (hc : c < 2 ^ n) : turnN n c < 2 ^ n := imgN_lt hc (fun x => toN_lt hn x)
theorem turn_f {n c : Nat} (hn : 1 ≤ n) (hn2 : n ≤ 24) (hc : c < 2 ^ n) : chords_circle_turn.f (n : Int) (c : Int) = some (turnN n c : Int) := by
  unfold chords_circle_turn.f
  rw [Int.toNat_natCast, Int.toNat_natCast, if_pos ⟨by omega, by omega, by omega, by rw [← pow_cast]; omega⟩, accTo_all hc]
  rfl

end Go.Proofs.YtfpnojcbhbkfaaaDoor.P
namespace Go.Proofs.YtfpnojcbhbkfaaaDoor.P
open Go.RowKit Go.Proofs.YtfpnojcbhbkfaaaDoorW.PrintWords Go.Proofs.YtfpnojcbhbkfaaaDoorW.PrintLast Go.Proofs.YtfpnojcbhbkfaaaDoorW.PrintMore
attribute [local go_sem] max2_int min2_int max_two min_two max_three min_three max_four min_four   -- for this text's walks alone
set_option linter.unusedVariables false
set_option linter.unusedSimpArgs false

/-! the images of a chord: a set on which moves and turns act -/
theorem mod2 {n x : Nat} (hx : x < 2 * n) : x % n = if x < n then x else x - n := by
  split
  · rename_i h; exact Nat.mod_eq_of_lt h
  · rename_i h
    rw [Nat.mod_eq_sub_mod (by omega), Nat.mod_eq_of_lt (by omega)]
theorem idx_mm {n i a b : Nat} (hi : i < n) (ha : a < n) (hb : b < n) : ((i + (n - b)) % n + (n - a)) % n = (i + (n - (a + b) % n)) % n := by
  rw [Nat.mod_add_mod, mod2 (x := a + b) (by omega)]
  split
  · rw [show i + (n - b) + (n - a) = i + (n - (a + b)) + n by omega, Nat.add_mod_right]
  · rw [show i + (n - b) + (n - a) = i + (n - (a + b - n)) by omega]
theorem idx_tt {n i : Nat} (hi : i < n) : (n - (n - i) % n) % n = i := by
  rcases Nat.eq_zero_or_pos i with e | e
  · subst e; simp
  · rw [Nat.mod_eq_of_lt (show n - i < n by omega), mod2 (by omega)]; split <;> omega
theorem idx_tm {n i a : Nat} (hi : i < n) (ha : a < n) : ((n - i) % n + (n - a)) % n = (n - (i + (n - (n - a) % n)) % n) % n := by
  rcases Nat.eq_zero_or_pos i with e | e <;> rcases Nat.eq_zero_or_pos a with e2 | e2
  · subst e; subst e2; simp
  · subst e; rw [Nat.sub_zero, Nat.mod_self, Nat.mod_eq_of_lt (show n - a < n by omega)]
    rw [Nat.mod_eq_of_lt (show 0 + (n - a) < n by omega), mod2 (x := 0 + (n - (n - a))) (by omega)]
    split
    · rw [mod2 (by omega)]; split <;> omega
    · omega
  · subst e2; rw [Nat.sub_zero, Nat.mod_self, Nat.mod_eq_of_lt (show n - i < n by omega)]
    rw [mod2 (by omega), mod2 (x := i + (n - 0)) (by omega)]
    split
    · omega
    · split
      · omega
      · rw [mod2 (by omega)]; split <;> omega
  · rw [Nat.mod_eq_of_lt (show n - i < n by omega), Nat.mod_eq_of_lt (show n - a < n by omega)]
    rw [mod2 (x := i + (n - (n - a))) (by omega), mod2 (x := n - i + (n - a)) (by omega)]
    split <;> split
    · rw [mod2 (by omega)]; split <;> omega
    · rw [mod2 (by omega)]; split <;> omega
    · rw [mod2 (by omega)]; split <;> omega
    · rw [mod2 (by omega)]; split <;> omega
theorem toN_neg {n x : Nat} (hx : x < n) : toN negTo n x = (n - x) % n := by
  unfold toN negTo
  rcases Nat.eq_zero_or_pos x with e | e
  · subst e; simp
  · rw [Nat.mod_eq_of_lt (show n - x < n by omega)]
    have : -(x : Int) % (n : Int) = ((n - x : Nat) : Int) := by
      rw [← Int.add_emod_right, Int.emod_eq_of_lt (by omega) (by omega)]; omega
    rw [this, Int.toNat_natCast]
theorem turn_bit {n c i : Nat} (hc : c < 2 ^ n) (hi : i < n) : (turnN n c).testBit i = c.testBit ((n - i) % n) := by
  rw [Bool.eq_iff_iff]
  unfold turnN
  rw [imgN_bit hc]
  constructor
  · rintro ⟨x, hx, he⟩
    have hxn := bit_lt hc hx
    rw [toN_neg hxn] at he
    rw [← he, idx_tt hxn]; exact hx
  · intro h
    refine ⟨_, h, ?_⟩
    rw [toN_neg (Nat.mod_lt _ (by omega)), idx_tt hi]
theorem move_move {n c a b : Nat} (hc : c < 2 ^ n) (ha : a < n) (hb : b < n) : moveN n (moveN n c a) b = moveN n c ((a + b) % n) := by
  refine bits_ext (moveN_lt _ _ _) (moveN_lt _ _ _) (fun i hi => ?_)
  rw [testBit_moveN (moveN_lt _ _ _) hb hi, testBit_moveN hc ha (Nat.mod_lt _ (by omega)), testBit_moveN hc (Nat.mod_lt _ (by omega)) hi, idx_mm hi ha hb]
theorem turn_turn {n c : Nat} (hn : 1 ≤ n) (hc : c < 2 ^ n) : turnN n (turnN n c) = c := by
  refine bits_ext (turnN_lt hn (turnN_lt hn hc)) hc (fun i hi => ?_)
  rw [turn_bit (turnN_lt hn hc) hi, turn_bit hc (Nat.mod_lt _ (by omega)), idx_tt hi]
theorem turn_move {n c a : Nat} (hc : c < 2 ^ n) (ha : a < n) : turnN n (moveN n c a) = moveN n (turnN n c) ((n - a) % n) := by
  have hn : 1 ≤ n := by omega
  refine bits_ext (turnN_lt hn (moveN_lt _ _ _)) (moveN_lt _ _ _) (fun i hi => ?_)
  rw [turn_bit (moveN_lt _ _ _) hi, testBit_moveN hc ha (Nat.mod_lt _ (by omega)), testBit_moveN (turnN_lt hn hc) (Nat.mod_lt _ (by omega)) hi, turn_bit hc (Nat.mod_lt _ (by omega)), idx_tm hi ha]
theorem move_0 {n c : Nat} (hn : 1 ≤ n) (hc : c < 2 ^ n) : moveN n c 0 = c := by
  refine bits_ext (moveN_lt _ _ _) hc (fun i hi => ?_)
  rw [testBit_moveN hc (by omega) hi, Nat.sub_zero, Nat.add_mod_right, Nat.mod_eq_of_lt hi]
theorem move_back {n c a : Nat} (hc : c < 2 ^ n) (ha : a < n) : moveN n (moveN n c a) ((n - a) % n) = c := by
  have hn : 1 ≤ n := by omega
  rw [move_move hc ha (Nat.mod_lt _ hn)]
  have : (a + (n - a) % n) % n = 0 := by
    rcases Nat.eq_zero_or_pos a with e | e
    · subst e; simp
    · rw [Nat.mod_eq_of_lt (show n - a < n by omega), show a + (n - a) = n by omega, Nat.mod_self]
  rw [this, move_0 hn hc]
def IsImg (n c x : Nat) : Prop := ∃ j, j < n ∧ (x = moveN n c j ∨ x = moveN n (turnN n c) j)
theorem IsImg.lt {n c x : Nat} (h : IsImg n c x) : x < 2 ^ n := by
  obtain ⟨j, _, rfl | rfl⟩ := h <;> exact moveN_lt _ _ _
theorem IsImg.refl {n c : Nat} (hn : 1 ≤ n) (hc : c < 2 ^ n) : IsImg n c c := ⟨0, by omega, .inl (move_0 hn hc).symm⟩
theorem IsImg.trans {n c z x : Nat} (hc : c < 2 ^ n) (h : IsImg n c z) (k : IsImg n z x) : IsImg n c x := by
  obtain ⟨j, hj, hz⟩ := h
  obtain ⟨i, hi, hx⟩ := k
  have hn : 1 ≤ n := by omega
  have ht := turnN_lt hn hc
  rcases hz with rfl | rfl <;> rcases hx with rfl | rfl
  · exact ⟨_, Nat.mod_lt _ hn, .inl (move_move hc hj hi)⟩
  · rw [turn_move hc hj, move_move ht (Nat.mod_lt _ hn) hi]; exact ⟨_, Nat.mod_lt _ hn, .inr rfl⟩
  · exact ⟨_, Nat.mod_lt _ hn, .inr (move_move ht hj hi)⟩
  · rw [turn_move ht hj, turn_turn hn hc, move_move hc (Nat.mod_lt _ hn) hi]; exact ⟨_, Nat.mod_lt _ hn, .inl rfl⟩
theorem IsImg.symm {n c z : Nat} (hc : c < 2 ^ n) (h : IsImg n c z) : IsImg n z c := by
  obtain ⟨j, hj, hz⟩ := h
  have hn : 1 ≤ n := by omega
  have ht := turnN_lt hn hc
  rcases hz with rfl | rfl
  · exact ⟨_, Nat.mod_lt _ hn, .inl (move_back hc hj).symm⟩
  · refine ⟨j, hj, .inr ?_⟩
    rw [turn_move ht hj, turn_turn hn hc, move_move hc (Nat.mod_lt _ hn) hj]
    have : ((n - j) % n + j) % n = 0 := by
      rcases Nat.eq_zero_or_pos j with e | e
      · subst e; simp
      · rw [Nat.mod_eq_of_lt (show n - j < n by omega), show n - j + j = n by omega, Nat.mod_self]
    rw [this, move_0 hn hc]
theorem IsImg.iff {n c z x : Nat} (hc : c < 2 ^ n) (h : IsImg n c z) : IsImg n z x ↔ IsImg n c x := ⟨fun k => h.trans hc k, fun k => (h.symm hc).trans h.lt k⟩
/-- how many moves take one chord to another one -/
noncomputable def hits (n a x : Nat) : Nat := cnt n (fun k => decide (moveN n a k = x))
theorem hits_to {n a x j : Nat} (ha : a < 2 ^ n) (hx : x < 2 ^ n) (hj : j < n) : hits n a (moveN n x j) = hits n a x := by
  have hn : 1 ≤ n := by omega
  unfold hits
  rw [← cnt_shift (n - j) (fun k => decide (moveN n a k = x))]
  refine cnt_congr (fun k hk => ?_)
  rw [decide_eq_decide]
  have e : moveN n (moveN n a k) ((n - j) % n) = moveN n a ((k + (n - j)) % n) := by
    rw [move_move ha hk (Nat.mod_lt _ hn), Nat.add_mod_mod]
  constructor
  · intro h; rw [← e, h, move_back hx hj]
  · intro h
    have h2 : moveN n (moveN n (moveN n a k) ((n - j) % n)) j = moveN n x j := by rw [e, h]
    rw [move_move (moveN_lt _ _ _) (Nat.mod_lt _ hn) hj] at h2
    have : ((n - j) % n + j) % n = 0 := by
      rcases Nat.eq_zero_or_pos j with e | e
      · subst e; simp
      · rw [Nat.mod_eq_of_lt (show n - j < n by omega), show n - j + j = n by omega, Nat.mod_self]
    rw [this, move_0 hn (moveN_lt _ _ _)] at h2
    exact h2
theorem hits_from {n a x i : Nat} (ha : a < 2 ^ n) (hi : i < n) : hits n (moveN n a i) x = hits n a x := by
  unfold hits
  rw [← cnt_shift i (fun k => decide (moveN n a k = x))]
  refine cnt_congr (fun k hk => ?_)
  rw [move_move ha hi hk, Nat.add_comm]
theorem cnt_reflect {n : Nat} (p : Nat → Bool) : cnt n (fun k => p ((n - k) % n)) = cnt n p :=
  cnt_perm (f := fun k => (n - k) % n) (fun i hi => Nat.mod_lt _ (by omega)) (fun i hi j hj e => by
    have h1 := congrArg (fun z => (n - z) % n) e
    simp only [idx_tt hi, idx_tt hj] at h1
    exact h1) p
theorem hits_turn {n a x : Nat} (hn : 1 ≤ n) (ha : a < 2 ^ n) (hx : x < 2 ^ n) : hits n (turnN n a) (turnN n x) = hits n a x := by
  unfold hits
  rw [← cnt_reflect (fun k => decide (moveN n (turnN n a) k = turnN n x))]
  refine cnt_congr (fun k hk => ?_)
  rw [decide_eq_decide, ← turn_move ha hk]
  constructor
  · intro h
    have := congrArg (turnN n) h
    rwa [turn_turn hn (moveN_lt _ _ _), turn_turn hn hx] at this
  · intro h; rw [h]
noncomputable def stays (n c : Nat) : Nat := hits n c c
noncomputable def turns (n c : Nat) : Nat := hits n (turnN n c) c
theorem still_img {n c z : Nat} (hc : c < 2 ^ n) (h : IsImg n c z) : stays n z = stays n c ∧ turns n z = turns n c := by
  obtain ⟨j, hj, hz⟩ := h
  have hn : 1 ≤ n := by omega
  have ht := turnN_lt hn hc
  have mv : ∀ a, a < 2 ^ n → stays n (moveN n a j) = stays n a ∧ turns n (moveN n a j) = turns n a := fun a ha => by
    constructor
    · unfold stays; rw [hits_from ha hj, hits_to ha ha hj]
    · unfold turns; rw [turn_move ha hj, hits_from (turnN_lt hn ha) (Nat.mod_lt _ hn), hits_to (turnN_lt hn ha) ha hj]
  have tn : stays n (turnN n c) = stays n c ∧ turns n (turnN n c) = turns n c := by
    constructor
    · unfold stays; exact hits_turn hn hc hc
    · unfold turns
      have := hits_turn hn ht hc
      exact this
  rcases hz with rfl | rfl
  · exact mv c hc
  · exact ⟨(mv _ ht).1.trans tn.1, (mv _ ht).2.trans tn.2⟩
theorem hits_img {n c x : Nat} (hc : c < 2 ^ n) (h : IsImg n c x) : hits n c x + hits n (turnN n c) x = stays n c + turns n c := by
  obtain ⟨j, hj, hz⟩ := h
  have hn : 1 ≤ n := by omega
  have ht := turnN_lt hn hc
  rcases hz with rfl | rfl
  · rw [hits_to hc hc hj, hits_to ht hc hj]; rfl
  · rw [hits_to hc ht hj, hits_to ht ht hj]
    have e1 : hits n c (turnN n c) = turns n c := by
      have := hits_turn hn hc ht
      rw [turn_turn hn hc] at this
      unfold turns; exact this.symm
    have e2 : hits n (turnN n c) (turnN n c) = stays n c := hits_turn hn hc hc
    rw [e1, e2]; omega
theorem cnt_false (n : Nat) : cnt n (fun _ => false) = 0 := by rw [cnt_eq]; simp
theorem cnt_true (n : Nat) : cnt n (fun _ => true) = n := by rw [cnt_eq]; simp
theorem sum_hits {n a : Nat} : ∀ (L : List Nat), L.Nodup → (L.map fun x => hits n a x).sum = cnt n (fun k => decide (moveN n a k ∈ L))
  | [], _ => by simp [cnt_false]
  | x :: L, hd => by
    rw [List.nodup_cons] at hd
    rw [List.map_cons, List.sum_cons, sum_hits L hd.2]
    rw [cnt_split (fun k => decide (moveN n a k ∈ x :: L)) (fun k => decide (moveN n a k = x))]
    unfold hits
    congr 1
    · refine cnt_congr (fun k _ => ?_)
      rw [← Bool.decide_and, decide_eq_decide]
      exact ⟨fun h => ⟨by simp [h], h⟩, fun h => h.2⟩
    · refine cnt_congr (fun k _ => ?_)
      by_cases h : moveN n a k = x
      · have : x ∉ L := hd.1
        simp [h, this]
      · simp [h]
/-- as many images, each as often as what leaves the chord as it is -/
theorem orbit_count {n c : Nat} (hn : 1 ≤ n) (hc : c < 2 ^ n) (L : List Nat) (hd : L.Nodup) (hm : ∀ x, x ∈ L ↔ IsImg n c x) : L.length * (stays n c + turns n c) = 2 * n := by
  have h1 := sum_hits (n := n) (a := c) L hd
  have h2 := sum_hits (n := n) (a := turnN n c) L hd
  have e1 : cnt n (fun k => decide (moveN n c k ∈ L)) = n := by
    have : cnt n (fun k => decide (moveN n c k ∈ L)) = cnt n (fun _ => true) := cnt_congr (fun k hk => decide_eq_true ((hm _).2 ⟨k, hk, .inl rfl⟩))
    rw [this, cnt_true]
  have e2 : cnt n (fun k => decide (moveN n (turnN n c) k ∈ L)) = n := by
    have : cnt n (fun k => decide (moveN n (turnN n c) k ∈ L)) = cnt n (fun _ => true) := cnt_congr (fun k hk => decide_eq_true ((hm _).2 ⟨k, hk, .inr rfl⟩))
    rw [this, cnt_true]
  rw [e1] at h1; rw [e2] at h2
  have h3 : ∀ M : List Nat, (∀ x ∈ M, x ∈ L) → (M.map fun x => hits n c x).sum + (M.map fun x => hits n (turnN n c) x).sum = M.length * (stays n c + turns n c) := by
    intro M
    induction M with
    | nil => intro _; simp
    | cons x M ih =>
      intro hM
      have := ih (fun y hy => hM y (List.mem_cons_of_mem _ hy))
      have hx := hits_img hc ((hm x).1 (hM x (by simp)))
      simp only [List.map_cons, List.sum_cons, List.length_cons, Nat.succ_mul]
      omega
  have := h3 L (fun x hx => hx)
  omega
/-- the vector is the same for all images -/
theorem common_move {n c j d : Nat} (hc : c < 2 ^ n) (hj : j < n) (hd : d < n) : common n (moveN n c j) (moveN n c j) d = common n c c d := by
  rw [common_cnt, common_cnt, ← cnt_shift (n - j) (fun i => c.testBit i && c.testBit ((i + (n - d)) % n))]
  refine cnt_congr (fun i hi => ?_)
  have hn : 1 ≤ n := by omega
  rw [testBit_moveN hc hj hi, testBit_moveN hc hj (Nat.mod_lt _ hn)]
  congr 2
  rw [Nat.mod_add_mod, Nat.mod_add_mod]
  congr 1; omega
theorem common_turn {n c d : Nat} (hn : 1 ≤ n) (hc : c < 2 ^ n) (hd : d < n) : common n (turnN n c) (turnN n c) d = common n c c d := by
  rw [common_cnt, common_cnt]
  have e1 : cnt n (fun i => (turnN n c).testBit i && (turnN n c).testBit ((i + (n - d)) % n)) = cnt n (fun i => (fun k => c.testBit k && c.testBit ((k + d) % n)) ((n - i) % n)) := by
    refine cnt_congr (fun i hi => ?_)
    rw [turn_bit hc hi, turn_bit hc (Nat.mod_lt _ hn)]
    congr 2
    have := idx_tm (n := n) (i := i) (a := (n - d) % n) hi (Nat.mod_lt _ hn)
    rw [idx_tt hd] at this
    rw [← this]
    have e3 : (n - (n - d) % n) = if d = 0 then n else d := by
      rcases Nat.eq_zero_or_pos d with e | e
      · subst e; simp
      · rw [Nat.mod_eq_of_lt (show n - d < n by omega), if_neg (by omega)]; omega
    rw [e3]
    split
    · rename_i e; subst e; rw [Nat.add_mod_right, Nat.add_zero]
    · rfl
  rw [e1, cnt_reflect (fun k => c.testBit k && c.testBit ((k + d) % n)), ← cnt_shift d (fun i => c.testBit i && c.testBit ((i + (n - d)) % n))]
  refine cnt_congr (fun i hi => ?_)
  have e2 : ((i + d) % n + (n - d)) % n = i := by rw [Nat.mod_add_mod, show i + d + (n - d) = i + n by omega, Nat.add_mod_right, Nat.mod_eq_of_lt hi]
  rw [e2, Bool.and_comm]
theorem vec_img {n c z : Nat} (hn : 2 ≤ n) (hc : c < 2 ^ n) (h : IsImg n c z) : vecOf n z = vecOf n c := by
  have hcm : ∀ d, d < n → common n z z d = common n c c d := by
    intro d hd
    obtain ⟨j, hj, hz⟩ := h
    rcases hz with rfl | rfl
    · exact common_move hc hj hd
    · rw [common_move (turnN_lt (by omega) hc) hj hd, common_turn (by omega) hc hd]
  rw [vecOf_eq, vecOf_eq]
  refine List.map_congr_left (fun i hi => ?_)
  have hi' := List.mem_range.1 hi
  unfold vecAt
  rw [hcm (i + 1) (by omega)]

end Go.Proofs.YtfpnojcbhbkfaaaDoor.P
namespace Go.Proofs.YtfpnojcbhbkfaaaDoor.P
open Go.RowKit Go.Proofs.YtfpnojcbhbkfaaaDoorW.PrintWords Go.Proofs.YtfpnojcbhbkfaaaDoorW.PrintLast Go.Proofs.YtfpnojcbhbkfaaaDoorW.PrintMore
attribute [local go_sem] max2_int min2_int max_two min_two max_three min_three max_four min_four   -- for this text's walks alone
set_option linter.unusedVariables false
set_option linter.unusedSimpArgs false

/-! lemmas on chords, gathered by mk_cplain.py -/
/-! what the functions on chords come to -/
def ValidC (n c : Int) : Prop := 2 ≤ n ∧ n ≤ 16 ∧ 0 ≤ c ∧ c < 2 ^ n.toNat
instance (n c : Int) : Decidable (ValidC n c) := by unfold ValidC; infer_instance
theorem shl_n {n : Int} (h0 : 0 ≤ n) (h : n ≤ 62) : shl .i64 1 n = 2 ^ n.toNat := by
  obtain ⟨m, rfl⟩ := Int.eq_ofNat_of_zero_le h0
  rw [shl1_i64 (by omega), pow_cast, Int.toNat_natCast]
theorem badChord_iff {n c : Int} (h2 : 2 ≤ n) (h16 : n ≤ 16) : badChord n c = false ↔ ValidC n c := by
  unfold badChord ValidC
  rw [shl_n (by omega) (by omega), Bool.or_eq_false_iff, decide_eq_false_iff_not, decide_eq_false_iff_not]
  omega
theorem valid1_f (n c : Int) : chords_circle_valid.f n [c] = some (decide (ValidC n c)) := by
  unfold chords_circle_valid.f
  by_cases h2 : n ≥ 2
  · by_cases h16 : n ≤ 16
    · rw [if_pos h2, if_pos h16, if_pos (by simp)]
      congr 1
      have := badChord_iff (c := c) h2 h16
      rw [Bool.eq_iff_iff]
      simp only [List.any_cons, List.any_nil, Bool.or_false, Bool.not_eq_true', decide_eq_true_eq]
      exact this
    · rw [if_pos h2, if_neg h16]
      have : ¬ ValidC n c := fun h => h16 h.2.1
      simp [this]
  · rw [if_neg h2]
    have : ¬ ValidC n c := fun h => h2 h.1
    simp [this]
theorem validC_nat {n c : Int} (h : ValidC n c) : ∃ N C : Nat, n = N ∧ c = C ∧ 2 ≤ N ∧ N ≤ 16 ∧ C < 2 ^ N := by
  obtain ⟨h1, h2, h3, h4⟩ := h
  obtain ⟨N, rfl⟩ := Int.eq_ofNat_of_zero_le (show 0 ≤ n by omega)
  obtain ⟨C, rfl⟩ := Int.eq_ofNat_of_zero_le h3
  rw [Int.toNat_natCast, ← pow_cast] at h4
  exact ⟨N, C, rfl, rfl, by omega, by omega, by omega⟩
theorem move_f {n c : Nat} (k : Int) (hn : 1 ≤ n) (hn2 : n ≤ 24) (hc : c < 2 ^ n) : chords_circle_move.f (n : Int) (c : Int) k = some (moveN n c (k % n).toNat : Int) := by
  unfold chords_circle_move.f
  rw [if_neg (by omega), tmod_mod (by omega) (by omega)]
  have h0 := Int.emod_nonneg k (show (n : Int) ≠ 0 by omega)
  have h1 := Int.emod_lt_of_pos k (show (0 : Int) < n by omega)
  obtain ⟨j, hj⟩ := Int.eq_ofNat_of_zero_le h0
  rw [hj] at h1 ⊢
  have hjn : j < n := by omega
  have hw : wrap64 ((n : Int) - (j : Int)) = ((n - j : Nat) : Int) := by rw [wrap_id (by omega) (by omega)]; omega
  have hp : 2 ^ n ≤ 2 ^ 24 := Nat.pow_le_pow_right (by omega) hn2
  have hpj : 2 ^ j ≤ 2 ^ 24 := Nat.pow_le_pow_right (by omega) (by omega)
  have h24 : (2 : Nat) ^ 24 = 16777216 := by decide
  have h63 : (2 : Nat) ^ 63 = 9223372036854775808 := by decide
  have hm : c * 2 ^ j < 2 ^ 63 := by
    have : c * 2 ^ j ≤ 16777216 * 16777216 := Nat.mul_le_mul (by omega) (by omega)
    omega
  have hw2 : wrap64 (shl .i64 1 (n : Int) - 1) = ((2 ^ n - 1 : Nat) : Int) := by
    rw [shl1_i64 (by omega), wrap_id (by omega) (by omega)]
    have := Nat.two_pow_pos n
    omega
  have hd : c / 2 ^ (n - j) < 2 ^ 63 := Nat.lt_of_le_of_lt (Nat.div_le_self _ _) (by omega)
  have hor : c * 2 ^ j ||| c / 2 ^ (n - j) < 2 ^ 63 := Nat.or_lt_two_pow hm hd
  rw [hw, if_pos (by omega), if_pos (by omega), if_pos (by omega), hw2, shl_i64 (by omega) hm, shr_i64 _ _ (by omega), or_i64 hm hd, and_i64 hor (by omega), Int.toNat_natCast]
  unfold moveN
  rfl
theorem and_chord {n a b : Nat} (hn : n ≤ 24) (ha : a < 2 ^ n) (hb : b < 2 ^ n) : Go.bits .and .i64 (a : Int) (b : Int) = ((a &&& b : Nat) : Int) := by
  have hp : 2 ^ n ≤ 2 ^ 24 := Nat.pow_le_pow_right (by omega) hn
  have h24 : (2 : Nat) ^ 24 = 16777216 := by decide
  have h63 : (2 : Nat) ^ 63 = 9223372036854775808 := by decide
  exact and_i64 (by omega) (by omega)
/-! the images of a chord, as the program and the reference list them -/
noncomputable def clsN (n c : Nat) : List Nat := Seal ((List.range (2 ^ n)).filter fun x => @decide (IsImg n c x) (Classical.propDecidable _))
theorem clsN_mem {n c x : Nat} : x ∈ clsN n c ↔ IsImg n c x := by
  unfold clsN
  rw [Seal_eq, List.mem_filter, List.mem_range, @decide_eq_true_iff _ (Classical.propDecidable _)]
  exact ⟨fun h => h.2, fun h => ⟨h.lt, h⟩⟩
theorem clsN_lt (n c : Nat) : (clsN n c).Pairwise (· < ·) := by
  unfold clsN
  rw [Seal_eq]
  exact List.Pairwise.filter _ List.pairwise_lt_range
theorem nodup_of_ltI {l : List Int} (h : l.Pairwise (· < ·)) : l.Nodup := List.Pairwise.imp (fun h => Int.ne_of_lt h) h
noncomputable def clsI (n c : Nat) : List Int := (clsN n c).map Int.ofNat
theorem clsI_lt (n c : Nat) : (clsI n c).Pairwise (· < ·) := List.Pairwise.map _ (fun _ _ h => Int.ofNat_lt.2 h) (clsN_lt n c)
theorem clsI_mem {n c : Nat} {x : Int} : x ∈ clsI n c ↔ ∃ y : Nat, x = y ∧ IsImg n c y := by
  unfold clsI
  rw [List.mem_map]
  constructor
  · rintro ⟨y, hy, rfl⟩; exact ⟨y, rfl, clsN_mem.1 hy⟩
  · rintro ⟨y, rfl, hy⟩; exact ⟨y, clsN_mem.2 hy, rfl⟩
theorem strict_unique {a b : List Int} (ha : a.Pairwise (· < ·)) (hb : b.Pairwise (· < ·)) (h : ∀ x, x ∈ a ↔ x ∈ b) : a = b :=
  List.Perm.eq_of_pairwise (le := (· < ·)) (fun _ _ _ _ h1 h2 => absurd h1 (by omega)) ha hb ((List.perm_ext_iff_of_nodup (nodup_of_ltI ha) (nodup_of_ltI hb)).2 h)
theorem get_bang {zs : List Int} {i : Nat} (h : i < zs.length) : zs.toArray[i]! = zs[i] := by simp [h]
theorem compact_upto {zs : List Int} (hs : zs.Pairwise (· ≤ ·)) : ∀ m, m ≤ zs.length → (Lib.compactUpTo zs.toArray m).Pairwise (· < ·) ∧ ∀ x, x ∈ Lib.compactUpTo zs.toArray m ↔ ∃ j, ∃ h : j < zs.length, j < m ∧ zs[j] = x
  | 0, _ => by simp [Lib.compactUpTo]
  | m + 1, hm => by
    obtain ⟨ih1, ih2⟩ := compact_upto hs m (by omega)
    have hml : m < zs.length := by omega
    rw [Lib.compactUpTo_succ, get_bang hml]
    have hle : ∀ j, ∀ h : j < zs.length, j < m → zs[j] ≤ zs[m] := fun j h hj => List.pairwise_iff_getElem.1 hs j m h hml hj
    by_cases hk : Lib.keeps zs.toArray m = true
    · rw [if_pos hk]
      have hne : m = 0 ∨ zs[m - 1]'(by omega) ≠ zs[m] := by
        rcases Nat.eq_zero_or_pos m with e | e
        · exact .inl e
        · right
          intro he
          have := Lib.keeps_neg (d := zs.toArray) e (by rw [get_bang hml, get_bang (by omega)]; exact he.symm)
          rw [this] at hk; cases hk
      have hlt : ∀ j, ∀ h : j < zs.length, j < m → zs[j] < zs[m] := fun j h hj => by
        rcases hne with e | e
        · omega
        · have h1 : zs[j] ≤ zs[m - 1]'(by omega) := by
            rcases Nat.lt_or_eq_of_le (show j ≤ m - 1 by omega) with h2 | h2
            · exact List.pairwise_iff_getElem.1 hs j (m - 1) h (by omega) h2
            · subst h2; exact Int.le_refl _
          have h2 := hle (m - 1) (by omega) (by omega)
          omega
      refine ⟨?_, fun x => ?_⟩
      · rw [List.pairwise_append]
        refine ⟨ih1, by simp, fun a ha b hb => ?_⟩
        obtain ⟨j, h, hj, rfl⟩ := (ih2 a).1 ha
        rw [List.mem_singleton] at hb; subst hb
        exact hlt j h hj
      · rw [List.mem_append, ih2, List.mem_singleton]
        constructor
        · rintro (⟨j, h, hj, rfl⟩ | rfl)
          · exact ⟨j, h, by omega, rfl⟩
          · exact ⟨m, hml, by omega, rfl⟩
        · rintro ⟨j, h, hj, rfl⟩
          rcases Nat.lt_or_ge j m with h2 | h2
          · exact .inl ⟨j, h, h2, rfl⟩
          · obtain rfl : j = m := by omega
            exact .inr rfl
    · rw [if_neg hk, List.append_nil]
      have hm0 : 0 < m := Nat.pos_of_ne_zero (fun e => hk (by subst e; simp [Lib.keeps]))
      have he : zs[m] = zs[m - 1]'(by omega) := by
        refine Classical.byContradiction fun hne => hk (Lib.keeps_pos ?_)
        rw [get_bang hml, get_bang (by omega)]; exact hne
      refine ⟨ih1, fun x => ?_⟩
      rw [ih2]
      constructor
      · rintro ⟨j, h, hj, rfl⟩; exact ⟨j, h, by omega, rfl⟩
      · rintro ⟨j, h, hj, rfl⟩
        rcases Nat.lt_or_ge j m with h2 | h2
        · exact ⟨j, h, h2, rfl⟩
        · obtain rfl : j = m := by omega
          exact ⟨j - 1, by omega, by omega, he.symm⟩
theorem compact_sorted {zs : List Int} (hs : zs.Pairwise (· ≤ ·)) : (Lib.compact zs).Pairwise (· < ·) ∧ ∀ x, x ∈ Lib.compact zs ↔ x ∈ zs := by
  obtain ⟨h1, h2⟩ := compact_upto hs zs.length (Nat.le_refl _)
  refine ⟨h1, fun x => (h2 x).trans ?_⟩
  rw [List.mem_iff_getElem]
  exact ⟨fun ⟨j, h, _, e⟩ => ⟨j, h, e⟩, fun ⟨j, h, e⟩ => ⟨j, h, h, e⟩⟩
theorem sort_le (l : List Int) : (l.mergeSort fun x y => decide (x ≤ y)).Pairwise (· ≤ ·) := by
  have := List.pairwise_mergeSort (le := fun x y : Int => decide (x ≤ y)) (by intros; simp at *; omega) (by intros; simp; omega) l
  exact List.Pairwise.imp (fun h => by simpa using h) this
/-- sorted, and each one once: just the strictly rising list of the same numbers -/
theorem sort_compact {l m : List Int} (hm : m.Pairwise (· < ·)) (h : ∀ x, x ∈ l ↔ x ∈ m) : Lib.compact (l.mergeSort fun x y => decide (x ≤ y)) = m := by
  obtain ⟨h1, h2⟩ := compact_sorted (sort_le l)
  refine strict_unique h1 hm (fun x => ?_)
  rw [h2, (List.mergeSort_perm l _).mem_iff, h]
def imgPairs (n c t d : Nat) : List Int := (List.range d).flatMap fun k => [(moveN n c k : Int), (moveN n t k : Int)]
theorem imgPairs_succ (n c t d : Nat) : imgPairs n c t (d + 1) = imgPairs n c t d ++ [(moveN n c d : Int), (moveN n t d : Int)] := by unfold imgPairs; rw [List.range_succ]; simp
theorem imgPairs_length (n c t d : Nat) : (imgPairs n c t d).length = 2 * d := by
  induction d with
  | zero => rfl
  | succ d ih => rw [imgPairs_succ, List.length_append, ih]; simp; omega
theorem images_loop {n c : Nat} (hn : 1 ≤ n) (hn2 : n ≤ 24) (hc : c < 2 ^ n) : ∀ (m d : Nat), d + m = n →
    Ev (fun k => chords_circle_images.l0 k (n : Int) (c : Int) (imgPairs n c (turnN n c) d) (n : Int) (d : Int)) (clsI n c) := by
  intro m
  induction m with
  | zero =>
    intro d hd
    have hdn : d = n := by omega
    have p1 : ¬ (d : Int) < (n : Int) := by omega
    have hl := imgPairs_length n c (turnN n c) d
    refine Ev.succ ?_
    simp only [chords_circle_images.l0, if_neg p1]
    have s1 : slices_Sort_int_int.f (imgPairs n c (turnN n c) d) = some ((imgPairs n c (turnN n c) d).mergeSort fun x y => decide (x ≤ y)) := by
      unfold slices_Sort_int_int.f; rw [if_pos (by omega)]
    have s2 : slices_Compact_int_int.f ((imgPairs n c (turnN n c) d).mergeSort fun x y => decide (x ≤ y)) = some (clsI n c) := by
      unfold slices_Compact_int_int.f
      rw [if_pos (by rw [List.length_mergeSort]; omega)]
      congr 1
      refine sort_compact (clsI_lt n c) (fun x => ?_)
      rw [clsI_mem]
      unfold imgPairs
      rw [List.mem_flatMap, hdn]
      constructor
      · rintro ⟨k, hk, hx⟩
        have hk' := List.mem_range.1 hk
        rcases List.mem_cons.1 hx with e | e
        · exact ⟨_, e, k, hk', .inl rfl⟩
        · rw [List.mem_singleton] at e; exact ⟨_, e, k, hk', .inr rfl⟩
      · rintro ⟨y, rfl, k, hk, e | e⟩
        · exact ⟨k, List.mem_range.2 hk, by rw [e]; simp⟩
        · exact ⟨k, List.mem_range.2 hk, by rw [e]; simp⟩
    refine Ev.bind_some s1 ?_
    refine Ev.bind_some s2 ?_
    exact Ev.some _
  | succ m ih =>
    intro d hd
    have hdn : d < n := by omega
    have p1 : (d : Int) < (n : Int) := by omega
    have m1 := move_f (d : Int) hn hn2 hc
    have m2 := move_f (d : Int) hn hn2 (turnN_lt hn hc)
    rw [modC_nat hdn] at m1 m2
    have hw := nextC_w (d := d) (by omega)
    have hl := imgPairs_length n c (turnN n c) d
    have p2 : (imgPairs n c (turnN n c) d).length + [(moveN n c d : Int), (moveN n (turnN n c) d : Int)].length < 17592186044416 := by simp; omega
    refine Ev.succ ?_
    simp only [chords_circle_images.l0, if_pos p1]
    refine Ev.bind_some m1 ?_
    refine Ev.bind_some (turn_f hn hn2 hc) ?_
    refine Ev.bind_some m2 ?_
    simp only [Option.bind_some, if_pos p2, hw]
    rw [← imgPairs_succ]
    exact ih (d + 1) (by omega)
theorem images_ev {n c : Nat} (hn : 1 ≤ n) (hn2 : n ≤ 24) (hc : c < 2 ^ n) : Ev (fun k => chords_circle_images.f k (n : Int) (c : Int)) (clsI n c) := by
  unfold chords_circle_images.f
  exact images_loop hn hn2 hc n 0 (by omega)
/-- the least image -/
noncomputable def priI (n c : Nat) : Int := rd (clsI n c) 0
theorem clsI_pos {n c : Nat} (hn : 1 ≤ n) (hc : c < 2 ^ n) : 0 < (clsI n c).length := by
  have : (c : Int) ∈ clsI n c := clsI_mem.2 ⟨c, rfl, IsImg.refl hn hc⟩
  exact List.length_pos_of_mem this
theorem prime_ev {n c : Nat} (hn : 1 ≤ n) (hn2 : n ≤ 24) (hc : c < 2 ^ n) : Ev (fun k => chords_circle_prime.f k (n : Int) (c : Int)) (priI n c) := by
  have p : (0 : Int) < ((clsI n c).length : Int) := by have := clsI_pos hn hc; omega
  unfold chords_circle_prime.f
  refine Ev.bind (images_ev hn hn2 hc) ?_
  simp only [if_pos p]
  exact Ev.some _
theorem Prime_ev (n c : Int) : Ev (fun k => chords_Prime.f k n c) (if ValidC n c then (priI n.toNat c.toNat, 0) else (0, 2)) := by
  unfold chords_Prime.f
  refine Ev.bind_some (valid1_f n c) ?_
  by_cases h : ValidC n c
  · simp only [h, decide_true, if_true]
    obtain ⟨N, C, rfl, rfl, h2, h16, hC⟩ := validC_nat h
    simp only [Int.toNat_natCast]
    refine Ev.bind (prime_ev (by omega) (by omega) hC) ?_
    exact Ev.some _
  · simp only [h, decide_false, Bool.false_eq_true, if_false]
    exact Ev.some _
theorem priI_spec {n c : Nat} (hn : 1 ≤ n) (hc : c < 2 ^ n) : ∃ p : Nat, priI n c = p ∧ IsImg n c p ∧ ∀ x, IsImg n c x → p ≤ x := by
  have hp := clsI_pos hn hc
  have hm : priI n c ∈ clsI n c := by unfold priI; exact rd_mem (i := 0) hp
  obtain ⟨p, e, hi⟩ := clsI_mem.1 hm
  refine ⟨p, e, hi, fun x hx => ?_⟩
  have hxm : (x : Int) ∈ clsI n c := clsI_mem.2 ⟨x, rfl, hx⟩
  obtain ⟨j, hj, ej⟩ := List.mem_iff_getElem.1 hxm
  have e0 : (clsI n c)[0] = (p : Int) := by rw [← e]; unfold priI; exact (rd_get (i := 0) hp).symm
  rcases Nat.eq_zero_or_pos j with h0 | h0
  · subst h0; omega
  · have := List.pairwise_iff_getElem.1 (clsI_lt n c) 0 j hp hj h0
    omega

/-! the reference's Valid and Size, awake -/
theorem refValid_f (n c : Int) : sackbutref01_Valid.f n c = some (decide (ValidC n c)) := by
  unfold sackbutref01_Valid.f
  by_cases h2 : n ≥ 2
  · by_cases h16 : n ≤ 16
    · by_cases h0 : c ≥ 0
      · rw [if_pos h2, if_pos h16, if_pos h0, if_pos (by omega), shl_n (by omega) (by omega)]
        congr 1
        rw [decide_eq_decide]
        unfold ValidC
        omega
      · rw [if_pos h2, if_pos h16, if_neg h0]
        have : ¬ ValidC n c := fun h => h0 h.2.2.1
        simp [this]
    · rw [if_pos h2, if_neg h16]
      have : ¬ ValidC n c := fun h => h16 h.2.1
      simp [this]
  · rw [if_neg h2]
    have : ¬ ValidC n c := fun h => h2 h.1
    simp [this]
theorem Size_loop (n : Nat) (hn : n ≤ 24) : ∀ (m a : Nat), a < 2 ^ n → chSize n a = m → ∀ c : Nat, c + m ≤ 1000 →
    Ev (fun k => sackbutref01_Size.l0 k (a : Int) (c : Int)) ((c + m : Nat) : Int) := by
  intro m
  induction m with
  | zero =>
    intro a ha hm c hc
    have h0 : a = 0 := eq_zero_of_chSize ha hm
    subst h0
    refine Ev.succ ?_
    simp only [sackbutref01_Size.l0, if_neg (show ¬ ((0 : Nat) : Int) > 0 by omega)]
    exact Ev.some _
  | succ m ih =>
    intro a ha hm c hc
    have hpos : 0 < a := by
      rcases Nat.eq_zero_or_pos a with h | h
      · subst h
        have := chSize_zero n
        omega
      · exact h
    have hp : 2 ^ n ≤ 2 ^ 24 := Nat.pow_le_pow_right (by omega) hn
    have h24 : (2 : Nat) ^ 24 = 16777216 := by decide
    have hw : wrap64 ((a : Int) - 1) = ((a - 1 : Nat) : Int) := by rw [wrap_id (by omega) (by omega)]; omega
    have hw2 : wrap64 ((c : Int) + 1) = ((c + 1 : Nat) : Int) := by rw [wrap_id (by omega) (by omega)]; omega
    refine Ev.succ ?_
    simp only [sackbutref01_Size.l0, if_pos (show (a : Int) > 0 by omega), hw, hw2, and_chord hn ha (show a - 1 < 2 ^ n by omega)]
    have := ih (a &&& (a - 1)) (Nat.lt_of_le_of_lt Nat.and_le_left ha) (by have := chSize_drop ha hpos; omega) (c + 1) (by omega)
    rw [show c + (m + 1) = c + 1 + m by omega]
    exact this
theorem Size_ev {n a : Nat} (hn : n ≤ 24) (ha : a < 2 ^ n) : Ev (fun k => sackbutref01_Size.f k (a : Int)) (chSize n a : Int) := by
  have := Size_loop n hn (chSize n a) a ha rfl 0 (by have := chSize_le n a; omega)
  simpa [sackbutref01_Size.f] using this


end Go.Proofs.YtfpnojcbhbkfaaaDoor.P
namespace Go.Proofs.YtfpnojcbhbkfaaaDoor.P
open Go.RowKit Go.Proofs.YtfpnojcbhbkfaaaDoorW.PrintWords Go.Proofs.YtfpnojcbhbkfaaaDoorW.PrintLast Go.Proofs.YtfpnojcbhbkfaaaDoorW.PrintMore
attribute [local go_sem] max2_int min2_int max_two min_two max_three min_three max_four min_four   -- for this text's walks alone
set_option linter.unusedVariables false
set_option linter.unusedSimpArgs false

/-! the power of a chord's images is the chord's power -/
/-- a chord's sum, in naturals -/
def sumB (n s : Nat) (f : Nat → Nat) : Nat := ((List.range n).map fun x => bitW s x * f x).sum
theorem sum_congr9 {α : Type} {l : List α} {f g : α → Nat} (h : ∀ x ∈ l, f x = g x) : (l.map f).sum = (l.map g).sum := by rw [List.map_congr_left h]
theorem sumB_congr {n s : Nat} {f g : Nat → Nat} (h : ∀ x, x < n → f x = g x) : sumB n s f = sumB n s g := sum_congr9 (fun x hx => by rw [h x (List.mem_range.1 hx)])
theorem accW_sum {q n u k : Nat} (c : Nat → Nat) : ∀ (m x acc : Nat), accW q n u k ((List.range' x m).map c) x acc % q = (acc + ((List.range' x m).map fun y => c y * pwN q u (k * y % n)).sum) % q
  | 0, x, acc => by simp [accW]
  | m + 1, x, acc => by
    rw [List.range'_succ, List.map_cons, accW, accW_sum c m (x + 1), List.map_cons, List.sum_cons]
    generalize c x * pwN q u (k * x % n) = t
    rw [show acc + t % q + ((List.range' (x + 1) m).map fun y => c y * pwN q u (k * y % n)).sum = (acc + ((List.range' (x + 1) m).map fun y => c y * pwN q u (k * y % n)).sum) + t % q by omega, Nat.add_mod_mod]
    congr 1
    omega
theorem specN_sum (n s k : Nat) : specN n s k = sumB n s (fun x => pwN (qF n) (wF n) (k * x % n)) % qF n := by
  unfold specN turnedV bitsL sumB
  rw [List.range_eq_range', accW_sum (bitW s) n 0 0, Nat.zero_add]
theorem sum_scale (q c : Nat) (b f : Nat → Nat) : ∀ l : List Nat, (l.map fun x => b x * (f x * c % q)).sum % q = ((l.map fun x => b x * f x).sum * c) % q
  | [] => by simp
  | x :: l => by
    rw [List.map_cons, List.sum_cons, List.map_cons, List.sum_cons, Nat.add_mod, sum_scale q c b f l, Nat.add_mul, Nat.add_mod (b x * f x * c)]
    congr 2
    rw [Nat.mul_mod, Nat.mod_mod, ← Nat.mul_mod, Nat.mul_assoc]
theorem sum_perm9 {n : Nat} {f : Nat → Nat} (hr : ∀ i, i < n → f i < n) (hi : ∀ i, i < n → ∀ j, j < n → f i = f j → i = j) (g : Nat → Nat) : ((List.range n).map fun x => g (f x)).sum = ((List.range n).map g).sum := by
  have h := ((map_perm_range hr hi).map g).sum_nat
  rw [List.map_map] at h
  exact h
theorem pw_tab : ((List.range' 2 15).all fun n => (List.range n).all fun a => (List.range n).all fun b => decide (pwN (qF n) (wF n) ((a + b) % n) = pwN (qF n) (wF n) a * pwN (qF n) (wF n) b % qF n)) = true := by kernel_rfl
theorem ix_tab : ((List.range' 2 15).all fun n => (List.range n).all fun k => (List.range n).all fun x => decide (k * ((n - x) % n) % n = (n - k) % n * x % n)) = true := by kernel_rfl
theorem pw_add {n a b : Nat} (h2 : 2 ≤ n) (h16 : n ≤ 16) (ha : a < n) (hb : b < n) : pwN (qF n) (wF n) ((a + b) % n) = pwN (qF n) (wF n) a * pwN (qF n) (wF n) b % qF n :=
  of_decide_eq_true (List.all_eq_true.1 (List.all_eq_true.1 (List.all_eq_true.1 pw_tab n (List.mem_range'_1.2 ⟨h2, by omega⟩)) a (List.mem_range.2 ha)) b (List.mem_range.2 hb))
theorem ix_turn {n k x : Nat} (h2 : 2 ≤ n) (h16 : n ≤ 16) (hk : k < n) (hx : x < n) : k * ((n - x) % n) % n = (n - k) % n * x % n :=
  of_decide_eq_true (List.all_eq_true.1 (List.all_eq_true.1 (List.all_eq_true.1 ix_tab n (List.mem_range'_1.2 ⟨h2, by omega⟩)) k (List.mem_range.2 hk)) x (List.mem_range.2 hx))
theorem bit_eq9 {a b i j : Nat} (h : a.testBit i = b.testBit j) : bitW a i = bitW b j := by unfold bitW; rw [h]
/-- a chord moved: its spectrum is multiplied by a power of the root -/
theorem spec_move {n s j k : Nat} (h2 : 2 ≤ n) (h16 : n ≤ 16) (hs : s < 2 ^ n) (hj : j < n) (hk : k < n) : specN n (moveN n s j) k = specN n s k * pwN (qF n) (wF n) (k * j % n) % qF n := by
  have hn : 0 < n := by omega
  rw [specN_sum, specN_sum, Nat.mod_mul_mod]
  have e : sumB n (moveN n s j) (fun x => pwN (qF n) (wF n) (k * x % n)) = ((List.range n).map fun x => bitW s x * (pwN (qF n) (wF n) (k * x % n) * pwN (qF n) (wF n) (k * j % n) % qF n)).sum := by
    unfold sumB
    rw [← sum_perm9 (f := fun x => (x + j) % n) (fun i _ => Nat.mod_lt _ hn) (fun a ha b hb h => add_mod_inj ha hb h)]
    refine sum_congr9 (fun x hx => ?_)
    have hx := List.mem_range.1 hx
    have hm : (x + j) % n < n := Nat.mod_lt _ hn
    have hb : (moveN n s j).testBit ((x + j) % n) = s.testBit x := by
      rw [testBit_moveN hs hj hm]
      congr 1
      rw [Nat.mod_add_mod, show x + j + (n - j) = x + n by omega, Nat.add_mod_right, Nat.mod_eq_of_lt hx]
    rw [bit_eq9 hb, ← pw_add h2 h16 (Nat.mod_lt _ hn) (Nat.mod_lt _ hn)]
    show bitW s x * pwN (qF n) (wF n) (k * ((x + j) % n) % n) = bitW s x * pwN (qF n) (wF n) ((k * x % n + k * j % n) % n)
    rw [← Nat.add_mod, ← Nat.mul_add, Nat.mul_mod_mod]
  rw [e]
  exact sum_scale (qF n) _ (bitW s) (fun x => pwN (qF n) (wF n) (k * x % n)) _
/-- a chord turned: its spectrum is turned -/
theorem spec_turn {n s k : Nat} (h2 : 2 ≤ n) (h16 : n ≤ 16) (hs : s < 2 ^ n) (hk : k < n) : specN n (turnN n s) k = specN n s ((n - k) % n) := by
  have hn : 0 < n := by omega
  rw [specN_sum, specN_sum]
  congr 1
  unfold sumB
  rw [← sum_perm9 (f := fun x => (n - x) % n) (fun i _ => Nat.mod_lt _ hn) (fun a ha b hb h => by
    have := congrArg (fun z => (n - z) % n) h
    simp only [idx_tt ha, idx_tt hb] at this
    exact this)]
  refine sum_congr9 (fun x hx => ?_)
  have hx := List.mem_range.1 hx
  have hm : (n - x) % n < n := Nat.mod_lt _ hn
  have hb : (turnN n s).testBit ((n - x) % n) = s.testBit x := by rw [turn_bit hs hm, idx_tt hx]
  rw [bit_eq9 hb]
  show bitW s x * pwN (qF n) (wF n) (k * ((n - x) % n) % n) = bitW s x * pwN (qF n) (wF n) ((n - k) % n * x % n)
  rw [ix_turn h2 h16 hk hx]
theorem spec_get {n s k : Nat} (hk : k < n) : (specL n (qF n) (wF n) (bitsL n s)).getD k 0 = specN n s k := by
  unfold specL specN
  rw [List.getD_eq_getElem?_getD, List.getElem?_map, List.getElem?_range hk]
  rfl
theorem pwr_eq {n s t : Nat} (hn : 1 ≤ n) (h : ∀ k, k < n → specN n s k * specN n s ((n - k) % n) % qF n = specN n t k * specN n t ((n - k) % n) % qF n) : pwrL n s = pwrL n t := by
  unfold pwrL wheelL
  refine List.map_congr_left (fun k hk => ?_)
  have hk := List.mem_range.1 hk
  have hm : (n - k) % n < n := Nat.mod_lt _ (by omega)
  unfold powV
  rw [spec_get hk, spec_get hm, spec_get hk, spec_get hm, h k hk]
theorem pwr_move {n s j : Nat} (h2 : 2 ≤ n) (h16 : n ≤ 16) (hs : s < 2 ^ n) (hj : j < n) : pwrL n (moveN n s j) = pwrL n s := by
  have hn : 0 < n := by omega
  refine pwr_eq (by omega) (fun k hk => ?_)
  have hm : (n - k) % n < n := Nat.mod_lt _ hn
  rw [spec_move h2 h16 hs hj hk, spec_move h2 h16 hs hj hm, ← Nat.mul_mod]
  have e1 : pwN (qF n) (wF n) (k * j % n) * pwN (qF n) (wF n) ((n - k) % n * j % n) % qF n = 1 := by
    rw [← pw_add h2 h16 (Nat.mod_lt _ hn) (Nat.mod_lt _ hn), ← Nat.add_mod, ← Nat.add_mul]
    have e0 : (k + (n - k) % n) * j % n = 0 := by
      rw [Nat.mul_mod, Nat.add_mod_mod, show k + (n - k) = n by omega, Nat.mod_self, Nat.zero_mul, Nat.zero_mod]
    rw [e0]
    rfl
  generalize pwN (qF n) (wF n) (k * j % n) = c at e1 ⊢
  generalize pwN (qF n) (wF n) ((n - k) % n * j % n) = d at e1 ⊢
  generalize specN n s k = x
  generalize specN n s ((n - k) % n) = y
  rw [show x * c * (y * d) = x * y * (c * d) by ac_rfl, Nat.mul_mod, e1, Nat.mul_one, Nat.mod_mod]
theorem pwr_turn {n s : Nat} (h2 : 2 ≤ n) (h16 : n ≤ 16) (hs : s < 2 ^ n) : pwrL n (turnN n s) = pwrL n s := by
  have hn : 0 < n := by omega
  refine pwr_eq (by omega) (fun k hk => ?_)
  have hm : (n - k) % n < n := Nat.mod_lt _ hn
  rw [spec_turn h2 h16 hs hk, spec_turn h2 h16 hs hm, idx_tt hk, Nat.mul_comm]
/-- **images have the same power** -/
theorem pwr_img {n s t : Nat} (h2 : 2 ≤ n) (h16 : n ≤ 16) (hs : s < 2 ^ n) (h : IsImg n s t) : pwrL n t = pwrL n s := by
  obtain ⟨j, hj, rfl | rfl⟩ := h
  · exact pwr_move h2 h16 hs hj
  · rw [pwr_move h2 h16 (turnN_lt (by omega) hs) hj, pwr_turn h2 h16 hs]
/-- the wheel of a chord moved is the wheel moved -/
theorem bitsL_get {n s i : Nat} (hi : i < n) : (bitsL n s).getD i 0 = bitW s i := by
  unfold bitsL
  rw [List.getD_eq_getElem?_getD, List.getElem?_map, List.getElem?_range hi]
  rfl
theorem wheel_move {n s j : Nat} (hs : s < 2 ^ n) (hj : j < n) {q : Nat} (hq : 2 ≤ q) : wheelL n q (movV n (bitsL n s) j) = natsI (bitsL n (moveN n s j)) := by
  rw [← wheel_bits hq]
  unfold wheelL
  refine List.map_congr_left (fun k hk => ?_)
  have hk := List.mem_range.1 hk
  unfold movV
  rw [bitsL_get (Nat.mod_lt _ (by omega)), bit_eq9 (testBit_moveN hs hj hk).symm]
theorem wheel_turn {n s : Nat} (hn : 1 ≤ n) (hs : s < 2 ^ n) {q : Nat} (hq : 2 ≤ q) : wheelL n q (trnV n (bitsL n s)) = natsI (bitsL n (turnN n s)) := by
  rw [← wheel_bits hq]
  unfold wheelL
  refine List.map_congr_left (fun k hk => ?_)
  have hk := List.mem_range.1 hk
  unfold trnV
  rw [bitsL_get (Nat.mod_lt _ (by omega)), bit_eq9 (turn_bit hs hk).symm]

end Go.Proofs.YtfpnojcbhbkfaaaDoor.P
namespace Go.Proofs.YtfpnojcbhbkfaaaDoor.P
open Go.RowKit Go.Proofs.YtfpnojcbhbkfaaaDoorW.PrintWords Go.Proofs.YtfpnojcbhbkfaaaDoorW.PrintLast Go.Proofs.YtfpnojcbhbkfaaaDoorW.PrintMore
attribute [local go_sem] max2_int min2_int max_two min_two max_three min_three max_four min_four   -- for this text's walks alone
set_option linter.unusedVariables false
set_option linter.unusedSimpArgs false

/-! sackbuttop.turns passes -/
theorem turns_ev : Ev (fun k => sackbuttop_turns.f k) true := by
  unfold sackbuttop_turns.f
  refine Ev.bind_some (show wheels_Spectrum.f 4 [0, 1, 0, 0] = some ([1, 5, 12, 8], 0) from by unfold wheels_Spectrum.f; rw [if_pos (by decide)]; kernel_rfl) ?_
  simp only [if_true]
  refine Ev.bind (Equal_ev _ _ (by decide)) ?_
  simp only [decide_true]
  exact Ev.some _

end Go.Proofs.YtfpnojcbhbkfaaaDoor.P
namespace Go.Proofs.YtfpnojcbhbkfaaaDoor.P
open Go.RowKit Go.Proofs.YtfpnojcbhbkfaaaDoorW.PrintWords Go.Proofs.YtfpnojcbhbkfaaaDoorW.PrintLast Go.Proofs.YtfpnojcbhbkfaaaDoorW.PrintMore
attribute [local go_sem] max2_int min2_int max_two min_two max_three min_three max_four min_four   -- for this text's walks alone
set_option linter.unusedVariables false
set_option linter.unusedSimpArgs false

theorem u64_pos {n : Nat} (h : n < 1000) : IntKind.u64.wrap (n : Int) = (n : Int) := by
  have : IntKind.u64.wrap (n : Int) = (n : Int) % 18446744073709551616 := rfl
  rw [this, Int.emod_eq_of_lt (by omega) (by omega)]
theorem u64_ge (x : Int) : 0 ≤ IntKind.u64.wrap x := by
  have : IntKind.u64.wrap x = x % 18446744073709551616 := rfl
  rw [this]
  exact Int.emod_nonneg _ (by decide)
theorem k_at {n : Nat} (x : Int) (h1 : 1 ≤ n) (h16 : n ≤ 16) : ∃ j : Nat, j < n ∧ wrap64 (Int.tmod (IntKind.u64.wrap x) (IntKind.u64.wrap (n : Int))) = (j : Int) := by
  rw [u64_pos (by omega)]
  have h0 := u64_ge x
  generalize IntKind.u64.wrap x = y at h0
  rw [Int.tmod_eq_emod_of_nonneg h0]
  have a := Int.emod_nonneg y (show (n : Int) ≠ 0 by omega)
  have b := Int.emod_lt_of_pos y (show (0 : Int) < (n : Int) by omega)
  refine ⟨(y % (n : Int)).toNat, by omega, ?_⟩
  rw [wrap_id (by omega) (by omega)]
  omega
theorem wchord_f {n s : Nat} (h2 : 2 ≤ n) (h16 : n ≤ 16) (hs : s < 2 ^ n) : wheels_Chord.f (n : Int) (s : Int) = some (natsI (bitsL n s), 0) := by
  unfold wheels_Chord.f
  rw [Int.toNat_natCast, Int.toNat_natCast, if_pos ⟨by omega, by omega, by omega, by exact_mod_cast hs⟩]
theorem bits_in {n s : Nat} (h2 : 2 ≤ n) (h16 : n ≤ 16) : (natsI (bitsL n s)).length = ((n : Nat) : Int).toNat ∧ ∀ x ∈ natsI (bitsL n s), 0 ≤ x ∧ x < (qF ((n : Nat) : Int).toNat : Int) := by
  rw [Int.toNat_natCast]
  refine ⟨natsI_bits_len n s, fun x hx => ?_⟩
  unfold natsI at hx
  obtain ⟨y, hy, rfl⟩ := List.mem_map.1 hx
  have := bitsL_lt (q := qF n) (by have := field_at h2 h16; omega) y hy
  show (0 : Int) ≤ ((y : Nat) : Int) ∧ ((y : Nat) : Int) < (qF n : Int)
  omega
theorem natsI_back (l : List Nat) : (natsI l).map Int.toNat = l := by
  unfold natsI
  rw [List.map_map]
  conv => rhs; rw [← List.map_id l]
  exact List.map_congr_left (fun x _ => by show ((x : Int)).toNat = x; omega)
theorem TopImages : sackbuttop_TopImages.Pure := by
  intro a0 a1 a2 _ _ _
  refine Ev.rounds (g := fun k => sackbuttop_TopImages.f k a0 a1 a2) ?_
  unfold sackbuttop_TopImages.f
  by_cases hv : ValidC a0 a1
  · obtain ⟨n, s, rfl, rfl, h2, h16, hs⟩ := validC_nat hv
    have hq : 2 ≤ qF n := by have := field_at h2 h16; omega
    obtain ⟨j, hj, hk⟩ := k_at a2 (show 1 ≤ n by omega) h16
    have hml := moveN_lt n s j
    have htl := turnN_lt (show 1 ≤ n by omega) hs
    have hbi := bits_in (s := s) h2 h16
    refine Ev.bind_some (wchord_f h2 h16 hs) ?_
    simp only [if_true]
    refine Ev.bind_some (refValid_f _ _) ?_
    simp only [hv, decide_true, Bool.not_true]
    refine Ev.succ ?_
    have hu : ¬ IntKind.u64.wrap ((n : Nat) : Int) = 0 := by rw [u64_pos (by omega)]; omega
    simp only [sackbuttop_TopImages.j0, Bool.false_eq_true, if_false, if_neg hu, hk]
    have hmv : chords_Move.f (n : Int) (s : Int) (j : Int) = some ((moveN n s j : Int), 0) := by
      unfold chords_Move.f
      rw [valid1_f]
      simp only [hv, decide_true, Option.bind_some, if_true]
      rw [move_f _ (by omega) (by omega) hs, modC_nat hj]
      rfl
    have htn : chords_Turn.f (n : Int) (s : Int) = some ((turnN n s : Int), 0) := by
      unfold chords_Turn.f
      rw [valid1_f]
      simp only [hv, decide_true, Option.bind_some, if_true]
      rw [turn_f (by omega) (by omega) hs]
      rfl
    have hcl : slices_Clone_int_int.f (natsI (bitsL n s)) = some (natsI (bitsL n s)) := by
      unfold slices_Clone_int_int.f
      rw [natsI_bits_len, if_pos (by omega)]
    have hwm : wheels_Move.f (n : Int) (natsI (bitsL n s)) (j : Int) = some (natsI (bitsL n (moveN n s j)), 0) := by
      unfold wheels_Move.f
      rw [if_pos ⟨by omega, by omega, hbi.1, hbi.2, by omega, by omega⟩, natsI_back, Int.toNat_natCast, Int.toNat_natCast, wheel_move hs hj hq]
    have hwt : wheels_Turn.f (n : Int) (natsI (bitsL n s)) = some (natsI (bitsL n (turnN n s)), 0) := by
      unfold wheels_Turn.f
      rw [if_pos ⟨by omega, by omega, hbi.1, hbi.2⟩, natsI_back, Int.toNat_natCast, wheel_turn (by omega) hs hq]
    obtain ⟨p, hp, himg, _⟩ := priI_spec (show 1 ≤ n by omega) hs
    have hpr := Prime_ev (n : Int) (s : Int)
    rw [if_pos hv, Int.toNat_natCast, Int.toNat_natCast, hp] at hpr
    have hal : wheels_Alike.f (n : Int) (s : Int) (p : Int) = some (true, 0) := by
      unfold wheels_Alike.f
      have hpl := himg.lt
      rw [Int.toNat_natCast, Int.toNat_natCast, Int.toNat_natCast, if_pos ⟨⟨by omega, by omega⟩, ⟨by omega, by exact_mod_cast hs⟩, by omega, by exact_mod_cast hpl⟩, pwr_img h2 h16 hs himg]
      simp
    refine Ev.bind_some hmv (Ev.bind_some htn (Ev.bind_some hcl (Ev.bind_some hwm (Ev.bind_some hwt (Ev.bind_some (wchord_f h2 h16 hml) (Ev.bind_some (wchord_f h2 h16 htl) (Ev.bind hpr (Ev.bind_some hal ?_))))))))
    simp only [if_true]
    refine Ev.bind (Equal_ev _ _ (by rw [natsI_bits_len]; omega)) ?_
    simp only [decide_true, if_true]
    refine Ev.bind (Equal_ev _ _ (by rw [natsI_bits_len]; omega)) ?_
    simp only [decide_true, if_true]
    exact Ev.bind turns_ev (Ev.some _)
  · have hf : wheels_Chord.f a0 a1 = some ([], 2) := by
      unfold wheels_Chord.f
      exact if_neg (fun h => hv ⟨h.1, h.2.1, h.2.2.1, h.2.2.2⟩)
    refine Ev.bind_some hf ?_
    simp only [if_neg (show ¬ (2 : Int) = 0 by decide)]
    refine Ev.succ ?_
    simp only [sackbuttop_TopImages.j0, if_true]
    exact Ev.bind turns_ev (Ev.some _)

end Go.Proofs.YtfpnojcbhbkfaaaDoor.P
namespace Go.Proofs.YtfpnojcbhbkfaaaDoor.Pure
theorem TopImages : Go.Proofs.YtfpnojcbhbkfaaaDoor.P.sackbuttop_TopImages.Pure := Go.Proofs.YtfpnojcbhbkfaaaDoor.P.TopImages
end Go.Proofs.YtfpnojcbhbkfaaaDoor.Pure
namespace Go.Proofs.YtfpnojcbhbkfaaaDoor.P
open Go.RowKit Go.Proofs.YtfpnojcbhbkfaaaDoorW.PrintWords Go.Proofs.YtfpnojcbhbkfaaaDoorW.PrintLast Go.Proofs.YtfpnojcbhbkfaaaDoorW.PrintMore
attribute [local go_sem] max2_int min2_int max_two min_two max_three min_three max_four min_four   -- for this text's walks alone
set_option linter.unusedVariables false
set_option linter.unusedSimpArgs false

open Go.ChangeShapes Go.WideShapes Go.ChangeAt Go.WideElems
/-! what the row's listed tables give the walks -/
def doorLaid2 : List (String × DataW Unit) := [("math/bits.deBruijn32tab", Rows.laid_math_bits_deBruijn32tab), ("math/bits.deBruijn64tab", Rows.laid_math_bits_deBruijn64tab)]
theorem door_g64 : Tryd.prog.globalNamed "math/bits.deBruijn64tab" = some 1 := by kernel_rfl
theorem door_t64 : (Tryd.prog.globals[1]?).map (·.type) = some 135 := by kernel_rfl
theorem door_met (os : Os) (args : Array Value) : laidMetH Tryd.prog doorLaid2 ((World.doorLaid Tryd.prog 19 os).forCall (fun _ _ => 0) ⟨#[], args, []⟩).memory :=
  laidMetH_of_parts3 (fuel := 8) (laidMet_of_run' 8 (by kernel_rfl) (by kernel_rfl)) (by kernel_rfl) (by kernel_rfl)
theorem door_tab : (Rows.laid_math_bits_deBruijn64tab : DataW Unit) = .agg (tzTab.map fun (n : Nat) => .lit (.int .u8 (n : Int))) := rfl
theorem door_c8 : Tryd.prog.cellsOf 5 = 1 := by kernel_rfl
theorem tabs_of_laid {W : World} (h : laidMetH Tryd.prog doorLaid2 W) : Tabs W := by
  rw [MakeChecks.laidMetH_plain _ _ _ (by kernel_rfl)] at h
  obtain ⟨ps, ⟨g0, t0, cs0, f0, p0, q0, hg0, ht0, hv0, hd0, ⟨g1, t1, cs1, f1, p1, q1, hg1, ht1, hv1, hd1, _, _⟩, _⟩, _, _⟩ := h
  obtain rfl := Option.some.inj (door_g64.symm.trans hg1)
  obtain rfl := Option.some.inj (door_t64.symm.trans ht1)
  obtain ⟨xs, m1, rfl, hx1, hlen, hn, hel⟩ := DataW.trod_array Tryd.underlying135 hd1
  simp only [Prod.mk.injEq] at hx1
  have hl := hx1.1
  rw [door_tab] at hl
  simp only [DataW.agg.injEq] at hl
  intro i hi
  have h0 := hel i hi
  obtain ⟨x, hx⟩ : ∃ x, xs[i]? = some x := ⟨xs[i], by simp [hn, hi]⟩
  rw [hx] at h0
  obtain ⟨k, e1, e2, _⟩ := DataW.trod_int Tryd.underlying5 h0
  have hk := congrArg (fun l => l[i]?) hl
  simp only [List.getElem?_map, hx, Option.map_some, e2] at hk
  have ht : tzTab[i]? = some (tzTab.getD i 0) := by
    rw [List.getD_eq_getElem?_getD]
    have hlen : tzTab.length = 64 := by decide
    rw [List.getElem?_eq_getElem (by omega)]; rfl
  rw [ht] at hk
  simp only [Option.map_some, Option.some.injEq, DataW.lit.injEq, Lit.int.injEq, true_and] at hk
  rw [door_c8, Nat.mul_one] at e1
  have hc := World.var?_cell hg1 hv1 i
  rw [hc]
  have : cs1.toList[i]? = some (.int .u8 k) := by
    have := congrArg (fun l => l[0]?) e1
    simpa using this
  rw [← Array.getElem?_toList, this, hk]

end Go.Proofs.YtfpnojcbhbkfaaaDoor.P
namespace Go.Proofs.YtfpnojcbhbkfaaaDoor.topImages
open Go.ChangeShapes Go.WideShapes Go.ChangeAt Go.RowKit
open Go.ChangeMaps (open_string shut_string)
set_option linter.unusedVariables false
theorem own : ownKnob Tryd.prog.godebug = none := by kernel_rfl
set_option maxRecDepth 100000 in
theorem lifted (os : Os) (started : os.Started) (H : Type) (enc : TypeId × Value → H) :
    ReturnsInHanded {} Tryd.checked os 6 .any (fun w args => (Rows.topImagesSpec.pre enc Tryd.prog Tryd.f6 [] false w args ∧ laidMetH Tryd.prog P.doorLaid2 w) ∧ sizedMet enc Tryd.prog Tryd.f6 (OpenSpec.ofChange Rows.topImagesSpec) false w args) (Rows.topImagesSpec.post enc Tryd.prog Tryd.f6 false true false false) := by
  refine returnsInHanded_of_change_and (C := Tryd.checked) (X := fun w _ => laidMetH Tryd.prog P.doorLaid2 w) (fun _ _ _ hh h => h.of_heap hh) own started (by kernel_rfl) Tryd.func6
    (ChangeSpec.witness_shaped (enc := enc) (C := Tryd.checked) (os := os) (X := fun w _ => laidMetH Tryd.prog P.doorLaid2 w) false (World.doorLaid Tryd.prog 19 os) #[.int .i64 0, .int .i64 0, .int .i64 0] 8 rfl (World.shaped_of_RefB (by kernel_rfl) (by kernel_rfl)) (by kernel_rfl) (by kernel_rfl) (by kernel_rfl) (P.door_met os _)) ?_
  intro W base args ds gs before hval0 hW hcnd hsz0 hL _
  have hsz : (DataW.weightsEach Tryd.prog (Tryd.f6.params.toList ++ Rows.topImagesSpec.plain.varTypes Tryd.prog) (ds ++ gs)).all (· ≤ reachBytes) = true := hsz0
  have hval : ∀ (j : Nat) t v, Tryd.f6.params[j]? = some t → args[j]? = some v → Value.okWide Tryd.prog W .any base t v := hval0
  have hW' := hW
  obtain ⟨p, q, hA0, hV, rfl, hfz, hnd⟩ := hW
  have hA : DataW.TrodAll enc Tryd.prog W 0 (fun _ => true) true Tryd.f6.params.toList args.toList ds p := hA0
  rw [Tryd.params6] at hA hval hsz
  obtain ⟨v0, vs0, d0, ds0, p0, q0, hargs, rfl, rfl, h0, r0⟩ := trodAll_cons hA
  obtain ⟨v1, vs1, d1, ds1, p1, q1, rfl, rfl, rfl, h1, r1⟩ := trodAll_cons r0
  obtain ⟨v2, vs2, d2, ds2, p2, q2, rfl, rfl, rfl, h2, r2⟩ := trodAll_cons r1
  obtain ⟨rfl, rfl, rfl⟩ := trodAll_nil r2
  obtain rfl : args = #[v0, v1, v2] := by cases args; simp_all
  obtain ⟨rfl, rfl⟩ := trodVars_none hV
  obtain ⟨a0, rfl, rfl, rfl, w0⟩ := open_int Tryd.underlying3 (hval 0 3 v0 rfl rfl) h0
  obtain ⟨a1, rfl, rfl, rfl, w1⟩ := open_int Tryd.underlying3 (hval 1 3 v1 rfl rfl) h1
  obtain ⟨a2, rfl, rfl, rfl, w2⟩ := open_int Tryd.underlying3 (hval 2 3 v2 rfl rfl) h2
  clear hA0 hval0 hsz0 hsz
  refine (P.sackbuttop_TopImages.walk Pure.TopImages a0 a1 a2 W (P.tabs_of_laid hL) w0 w1 w2).mono fun e W' ⟨he, bel⟩ => ?_
  subst he
  exact ⟨_, rfl, _, _, _, [], _, [], hW', trodAll_mk1 (shut_bool Tryd.underlying4 _), (trodAll_cons_mk (shut_int Tryd.underlying3 w0) (trodAll_cons_mk (shut_int Tryd.underlying3 w1) (trodAll_cons_mk (shut_int Tryd.underlying3 w2) trodAll_mk0))), rfl, bel.frame _, fun h => by cases h⟩
theorem over : Rows.topImagesRow.holds Tryd.pinned (OpenSpec.ofChange Rows.topImagesSpec) :=
  OpenClaim.holds_of_wide 6 Tryd.f6 rfl rfl rfl rfl rfl rfl rfl ⟨rfl, rfl, rfl, rfl, rfl⟩ rfl rfl rfl rfl rfl (by kernel_rfl) Tryd.func6 (by kernel_rfl)
    (of_decide_eq_true (by kernel_rfl)) (by unfold Func.isWrapper; first | (rw [if_pos (by decide +kernel)]; kernel_rfl) | (rw [if_neg (by decide +kernel)]; exact ⟨rfl, rfl⟩))
    (fun os started H enc _ => lifted os started H enc)
theorem proved : Rows.TopImagesSaid := over
#print axioms proved
end Go.Proofs.YtfpnojcbhbkfaaaDoor.topImages
namespace Go.Proofs.YtfpnojcbhbkfaaaDoor
theorem topImages_row : Rows.TopImagesSaid := topImages.proved
/-- The tied card, for the claim. -/
theorem topImages_holds : Rows.TopImagesCardSaid :=
  Claim7.holds_tied_plain_at .later [] [.data, .data] true (true, "497fa162678a0729af37f63795fa21e285c2430cc1eb41f0044b46e86bdcb108") false
    topImages_row (fun _ h => by cases h) (by kernel_rfl) (fun _ h => by cases h) topImages_row_tie rfl ⟨rfl, rfl⟩ (by kernel_rfl) rfl
    (fun f fn hf hfn => by
      obtain rfl : f = 6 := Option.some.inj ((show Tryd.prog.funcNamed "sackbut/sackbuttop.TopImages" = some 6 by kernel_rfl).symm.trans hf) |>.symm
      obtain rfl : fn = Tryd.f6 := (Option.some.inj (Tryd.func6.symm.trans hfn)).symm
      exact ⟨by kernel_rfl, fun j t ht => by
        rw [Tryd.params6] at ht
        have hm : t ∈ [3, 3, 3] := by simpa using Array.mem_of_getElem? ht
        have hall : ([3, 3, 3].all fun u => !Tryd.prog.wantsStandIn u) = true := by kernel_rfl
        exact (show Tryd.prog.wantsStandIn t = false by simpa using List.all_eq_true.1 hall t hm)⟩)
    (by kernel_rfl)
end Go.Proofs.YtfpnojcbhbkfaaaDoor
