/- A part of a proof that a law's Go function returns true for every input, laid by this session's program mp.py (which drives the kit's print). Conditions: as each theorem states them. -/
import Derived.Shelf.Abstract
import Derived.Shelf.RegionOpen
import Derived.Shelf.AbstractIn
import Derived.Sort.QuietIn
import Derived.OwnWalkIn
import Derived.TacticsInMore
import Derived.LoopNIn
import Derived.LoopIn
import Derived.Test.YtfpnojcbhbkfaaaDoorCTopHalves1
import Derived.Test.YtfpnojcbhbkfaaaDoorCTopHalves2
import Derived.Test.YtfpnojcbhbkfaaaDoorCTopHalves3
import Derived.Test.YtfpnojcbhbkfaaaDoorCTopHalves4
namespace Go.Proofs.YtfpnojcbhbkfaaaDoor.P
open Go.RowKit Go.Proofs.YtfpnojcbhbkfaaaDoorW.PrintWords Go.Proofs.YtfpnojcbhbkfaaaDoorW.PrintLast Go.Proofs.YtfpnojcbhbkfaaaDoorW.PrintMore
attribute [local go_sem] max2_int min2_int max_two min_two max_three min_three max_four min_four   -- for this text's walks alone
set_option linter.unusedVariables false
set_option linter.unusedSimpArgs false

/-! ### rows_half: function 47 -/
def rows_half.l0 : Nat → Int → List Int → Int → Int → Option (Int)
  | 0, _, _, _, _ => none
  | k + 1, x3, x10, x11, x12 => if x12 < x11 then (if 0 ≤ x12 then (if x12 < (x10.length : Int) then (if 0 ≤ (rd x10 x12) then (rows_half.l0 k (Go.bits .or .i64 x3 (shl .i64 1 (rd x10 x12))) x10 x11 (wrap64 (x12 + 1))) else (none)) else (none)) else (none)) else (some x3)
def rows_half.f (k : Nat) (l0 : List Int) : Option (Int) := if 0 ≤ (wrap64 ((l0.length : Int) / 2)) then (if (wrap64 ((l0.length : Int) / 2)) ≤ (l0.length : Int) then ((some (l0.take ((wrap64 ((l0.length : Int) / 2)) : Int).toNat : List Int)).bind fun y1001 => (rows_half.l0 k 0 y1001 (y1001.length : Int) 0)) else (none)) else (none)
theorem rows_half.mono_l : ∀ k, (∀ y0 y1 y2 y3, LeO (rows_half.l0 k y0 y1 y2 y3) (rows_half.l0 (k + 1) y0 y1 y2 y3))
  | 0 => fun _ _ _ _ r h => by simp [rows_half.l0] at h
  | k + 1 => by
    have ih0 := rows_half.mono_l k
    · intro y0 y1 y2 y3
      unfold rows_half.l0
      repeat' first
      | (with_reducible exact ih0 _ _ _ _)
      | (with_reducible exact LeO.refl _)
      | (with_reducible exact LeO.none _)
      | (with_reducible refine LeO.ite ?_ ?_)
      | (with_reducible refine LeO.bind ?_ (fun _ => ?_))
      | exact ih0 _ _ _ _
      | exact LeO.none _
      | refine LeO.ite ?_ ?_
      | refine LeO.bind ?_ (fun _ => ?_)
theorem rows_half.mono : ∀ a0 k, LeO (rows_half.f k a0) (rows_half.f (k + 1) a0) := by
  intro a0 k
  have ih0 := rows_half.mono_l k
  unfold rows_half.f
  repeat' first
      | (with_reducible exact ih0 _ _ _ _)
      | (with_reducible exact LeO.refl _)
      | (with_reducible exact LeO.none _)
      | (with_reducible refine LeO.ite ?_ ?_)
      | (with_reducible refine LeO.bind ?_ (fun _ => ?_))
      | exact ih0 _ _ _ _
      | exact LeO.none _
      | refine LeO.ite ?_ ?_
      | refine LeO.bind ?_ (fun _ => ?_)
set_option maxHeartbeats 8000000 in
set_option maxRecDepth 100000 in
theorem rows_half.calls (k : Nat) (A0 : Option Addr) (c0 : Nat) (l0 : List Int) (r : Int) (w : World) (hr0 : Kd.C (Kd.int .i64) w A0 l0.length l0) (hc0 : l0.length ≤ c0) (h : rows_half.f k l0 = some r) :
    Calls Tryd.prog 47 #[.slice A0 l0.length c0] w fun e w' => e = .returned (.int .i64 r) ∧ Drawn0 w w' := by
  have HR0 := Aside0.mk hr0
  have HC0 := Aside0.mk hc0
  clear hr0 hc0
  have H : (if 0 ≤ (wrap64 ((l0.length : Int) / 2)) then (if (wrap64 ((l0.length : Int) / 2)) ≤ (l0.length : Int) then ((some (l0.take ((wrap64 ((l0.length : Int) / 2)) : Int).toNat : List Int)).bind fun y1001 => (rows_half.l0 k 0 y1001 (y1001.length : Int) 0)) else (none)) else (none)) = some r := h
  clear h
  obtain ⟨ji2, hji2⟩ : ∃ j_ : Int, (wrap64 ((l0.length : Int) / 2)) = j_ := ⟨_, rfl⟩
  replace H : (if 0 ≤ (ji2) then (if (ji2) ≤ (l0.length : Int) then ((some (l0.take ((ji2) : Int).toNat : List Int)).bind fun y1001 => (rows_half.l0 k 0 y1001 (y1001.length : Int) 0)) else (none)) else (none)) = some r := by first | (rw [hji2] at H; exact H) | (simp only [hji2] at H ⊢; exact H)
  have hji2w : (IntKind.i64.wrap ((l0.length : Int) / 2)) = ji2 := (i64_w _).trans hji2
  by_cases c3 : 0 ≤ (ji2)
  · rw [if_pos c3] at H
    have c3b0 := eq_true c3
    have c3b1 : decide (0 ≤ (ji2)) = true := decide_eq_true c3
    clear c3
    by_cases c4 : (ji2) ≤ (l0.length : Int)
    · rw [if_pos c4] at H
      have c4b0 := eq_true c4
      have c4b1 : decide ((ji2) ≤ (l0.length : Int)) = true := decide_eq_true c4
      clear c4
      obtain ⟨y1001, hy1001⟩ : ∃ y_ : List Int, y_ = (l0.take ((ji2) : Int).toNat) := ⟨_, rfl⟩
      replace H : (rows_half.l0 k 0 y1001 (y1001.length : Int) 0) = some r := by first | (rw [hy1001]; with_reducible exact H) | (have H2_ := (Option.bind_some _ _).symm.trans H; rw [hy1001]; with_reducible exact H2_) | (have H2_ := (Option.bind_some _ _).symm.trans H; with_reducible exact H2_) | with_reducible exact H | (rw [hy1001]; exact H) | exact H
      have Ny1001 := Aside0.mk hy1001
      clear hy1001
      have H' := Aside0.mk H
      clear H
      obtain ⟨i05, hi05, _, hsz5, _⟩ := info_parts info3
      obtain ⟨hcut5, hA5, hC5⟩ := print_take_of (P := Tryd.prog) (Value.int .i64) 0 22 3 .i64 Tryd.underlying22 hi05 hsz5 A0 c0 l0 (ji2) (of_decide_eq_true (by first | (with_reducible assumption) | assumption)) (of_decide_eq_true (by first | (with_reducible assumption) | assumption)) HC0.out
      (first | rw [← Ny1001.out] at hcut5 hA5 hC5 | (simp only [Int.reduceToNat] at hcut5 hA5 hC5; rw [← Ny1001.out] at hcut5 hA5 hC5))
      have HR1002 := Aside0.mk (Kd.C_of_reads (h1 := fun _ => rfl) (hA5 _ (Kd.reads_of_C HR0.out)))
      have HC1002 := Aside0.mk hC5
      clear hA5 hC5 hi05 hsz5
      go_enter Tryd.func47, Tryd.ntmps47
      go_wp2
      go_loopg [3, 12] k (fun kq v3 v12 w' => ∃ (x3_1 : Int) (x12_1 : Int), v3 = .int .i64 x3_1 ∧ v12 = .int .i64 x12_1 ∧ Aside0 (rows_half.l0 kq x3_1 y1001 (y1001.length : Int) x12_1 = some r) ∧ Aside0 (kq ≤ k) ∧ Drawn0 w w')
      case atStart => exact ⟨(0), (0), (by first | rfl | (simp; done) | (simp [*]; done)), (by first | rfl | (simp; done) | (simp [*]; done)), H', ⟨Nat.le_refl _⟩, by repeat (first | exact Drawn0.refl _ | apply Drawn0.step)⟩
      case round =>
        clear H'
        try clear p2
        try clear c3
        try clear c3b0
        try clear c3b1
        try clear c4
        try clear c4b0
        try clear c4b1
        obtain ⟨x3_1, x12_1, rfl, rfl, HA, HK1, ⟨m1, rfl⟩⟩ := hrel
        cases gk with
        | zero => exact absurd HA.out (by simp [rows_half.l0])
        | succ k1 =>
          have H := HA.out
          clear HA
          simp only [rows_half.l0] at H
          by_cases c6 : x12_1 < (y1001.length : Int)
          · rw [if_pos c6] at H
            have c6b0 : decide (x12_1 < (y1001.length : Int)) = true := decide_eq_true c6
            clear c6
            by_cases c7 : 0 ≤ x12_1
            · rw [if_pos c7] at H
              have c7b0 : decide (0 ≤ x12_1) = true := decide_eq_true c7
              clear c7
              by_cases c8 : x12_1 < (y1001.length : Int)
              · rw [if_pos c8] at H
                have c8b0 : decide (x12_1 < (y1001.length : Int)) = true := decide_eq_true c8
                clear c8
                by_cases c9 : 0 ≤ (rd y1001 x12_1)
                · rw [if_pos c9] at H
                  have c9b0 := eq_true c9
                  have c9b1 : decide (0 ≤ (rd y1001 x12_1)) = true := decide_eq_true c9
                  clear c9
                  obtain ⟨ji10, hji10⟩ : ∃ j_ : Int, (shl .i64 1 (rd y1001 x12_1)) = j_ := ⟨_, rfl⟩
                  replace H : (rows_half.l0 k1 (Go.bits .or .i64 x3_1 (ji10)) y1001 (y1001.length : Int) (wrap64 (x12_1 + 1))) = some r := by first | (rw [hji10] at H; exact H) | (simp only [hji10] at H ⊢; exact H)
                  have hji10_ : (IntKind.i64.wrap (1 * 2 ^ min (rd y1001 x12_1).toNat 64)) = ji10 := hji10
                  have hji10z : (rd y1001 x12_1) ≤ 64 → (IntKind.i64.wrap (1 * 2 ^ (rd y1001 x12_1).toNat)) = ji10 := shl_small hji10
                  have hji10u : (IntKind.i64.wrap (2 ^ min (rd y1001 x12_1).toNat 64)) = ji10 := by have h_ := hji10_; rw [Int.one_mul] at h_; exact h_
                  have hji10v : (rd y1001 x12_1) ≤ 64 → (IntKind.i64.wrap (2 ^ (rd y1001 x12_1).toNat)) = ji10 := fun hle_ => by have h_ := hji10z hle_; rw [Int.one_mul] at h_; exact h_
                  have hji10y : (wrap64 (1 * 2 ^ min (rd y1001 x12_1).toNat 64)) = ji10 := (i64_w _).symm.trans hji10_
                  have hji10x : (rd y1001 x12_1) ≤ 64 → (wrap64 (1 * 2 ^ (rd y1001 x12_1).toNat)) = ji10 := fun h_ => (i64_w _).symm.trans (hji10z h_)
                  have H' := Aside0.mk H
                  clear H
                  have p1003 : 0 ≤ (x12_1 : Int) := of_decide_eq_true (by first | (with_reducible assumption) | assumption)
                  have q1003 : x12_1 < (y1001.length : Int) := of_decide_eq_true (by first | (with_reducible assumption) | assumption)
                  obtain ⟨ad1003, e1003, hx1003_0⟩ := Kd.at_int HR1002.out x12_1 p1003 q1003
                  cases e1003
                  replace p1003 := eq_true p1003
                  replace q1003 := eq_true q1003
                  go_wp2
                  go_roundg k1
                  case measure => have := HK1.out; omega
                  case rel => exact ⟨(Go.bits .or .i64 x3_1 (ji10)), (wrap64 (x12_1 + 1)), (by first | rfl | (simp; done) | (simp only [← hji10] <;> (first | rfl | simp)) | (simp [*]; done)), (by first | rfl | (simp; done) | (simp [*]; done)), H', ⟨by have := HK1.out; omega⟩, by repeat (first | exact Drawn0.refl _ | apply Drawn0.step)⟩
                · rw [if_neg c9] at H
                  exact absurd H (by simp)
              · rw [if_neg c8] at H
                exact absurd H (by simp)
            · rw [if_neg c7] at H
              exact absurd H (by simp)
          · rw [if_neg c6] at H
            have c6b0 : decide (x12_1 < (y1001.length : Int)) = false := decide_eq_false c6
            clear c6
            obtain rfl := Option.some.inj H
            go_wp2
            go_ret
            exact ⟨by first | rfl | (simp; done) | (simp only [← hji2] <;> (first | rfl | simp)) | (simp [*]; done), by repeat (first | exact Drawn0.refl _ | apply Drawn0.step)⟩
    · rw [if_neg c4] at H
      exact absurd H (by simp)
  · rw [if_neg c3] at H
    exact absurd H (by simp)

end Go.Proofs.YtfpnojcbhbkfaaaDoor.P
namespace Go.Proofs.YtfpnojcbhbkfaaaDoor.P
open Go.RowKit Go.Proofs.YtfpnojcbhbkfaaaDoorW.PrintWords Go.Proofs.YtfpnojcbhbkfaaaDoorW.PrintLast Go.Proofs.YtfpnojcbhbkfaaaDoorW.PrintMore
attribute [local go_sem] max2_int min2_int max_two min_two max_three min_three max_four min_four   -- for this text's walks alone
set_option linter.unusedVariables false
set_option linter.unusedSimpArgs false

attribute [local go_sem] Oper.semAt_some
/-! rows.With -/
/-- a row of one's own stays, whatever but cells is turned -/
theorem owns_own {A B : World} {base n size : Nat} {e : TypeId} {v : Value} {xs : List Value} {row : Option Nat} (h : A.ownsRow base e size v n xs) (hg : A.grownBy B row) (hr : ∀ r, row = some r → ∃ o : Obj, A.heap[r]? = some o ∧ o.isCells = false) : B.ownsRow base e size v n xs := by
  refine h.kept hg ?_
  rcases h.2 with ⟨rfl, _⟩ | ⟨g, cap, cur, rfl, _, hgg, _⟩
  · exact .inl rfl
  · refine .inr (fun e => ?_)
    obtain ⟨o, ho, hc⟩ := hr g e.symm
    rw [hgg] at ho; cases ho; cases hc
theorem owns_far {W : World} {base n size : Nat} {e : TypeId} {v : Value} {xs : List Value} (h : W.ownsRow base e size v n xs) {p : Addr} (hp : p.block < base) (u : Value) : (W.setCell p u).ownsRow base e size v n xs := by
  refine own_setCell h ?_ u
  intro e
  have := (h.lt _ e.symm).1
  omega
theorem C_lt {w : World} {A : Option Addr} {m : Nat} {xs : List Int} (h : Kd.C (Kd.int .i64) w A m xs) : ∀ a, A = some a → 0 < m → a.block < w.heap.size := fun a ha hm => by
  rcases Nat.lt_or_ge a.block w.heap.size with h1 | h1
  · exact h1
  · exact absurd rfl (Kd.far_C 0 h h1 a ha hm)
def two37 (xs : List S38) : List Value := xs.flatMap fun x => [.int .i64 x.f0, .int .i64 x.f1]
theorem two37_snoc (xs : List S38) (x : S38) : two37 (xs ++ [x]) = two37 xs ++ [.int .i64 x.f0, .int .i64 x.f1] := by simp [two37]
theorem R_two37 {W : World} {base : Nat} {v : Value} : ∀ {xs : List S38}, W.ownsRow base 38 2 v xs.length (two37 xs) → Kd.R k38 38 W base (fun _ => True) v xs := by
  intro xs h
  refine ⟨fun _ _ => trivial, two37 xs, h, ?_⟩
  clear h
  suffices H : ∀ ys : List S38, Reps (k38.M W base fun k => True ∧ some k ≠ v.ownBlock) k38.sz ys (two37 ys) from H xs
  intro ys
  generalize hr : ys.reverse = zs
  induction zs generalizing ys with
  | nil => have : ys = [] := by simpa using hr
           subst this; exact Reps.none _ _
  | cons z zs ih =>
    have e : ys = zs.reverse ++ [z] := by rw [← List.reverse_cons, ← hr, List.reverse_reverse]
    subst e
    rw [two37_snoc]
    exact Reps.snoc (ih _ (by simp)) (k38_mkM _ _ _ z) rfl
def half5 (l : List Int) : Nat := orAll 0 ((l.take (l.length / 2)).map Int.toNat)
def togB (l : List Int) (p : Nat × Nat) : Bool := decide (half5 (formOf l.length p.1 p.2 l) ||| half5 l = 2 ^ l.length - 1)
def withTo (l : List Int) (ps : List (Nat × Nat)) : List S38 := (ps.filter (togB l)).map fun p => ⟨(p.1 : Int), (p.2 : Int)⟩
def rows_With.f (l0 : List Int) : Option (List S38 × Int) := if IsRow l0 ∧ l0.length % 2 = 0 then some (withTo l0 (formPairs l0.length), 0) else some ([], 2)
theorem withTo_snoc (l : List Int) (ps : List (Nat × Nat)) (p : Nat × Nat) : withTo l (ps ++ [p]) = withTo l ps ++ if togB l p = true then [⟨(p.1 : Int), (p.2 : Int)⟩] else [] := by
  unfold withTo; rw [List.filter_append, List.map_append]
  cases h : togB l p <;> simp [h]
theorem half_loop (n : Nat) (hn : n ≤ 62) (l : List Int) (hl : l.length < 1000) (hr : ∀ x ∈ l, 0 ≤ x ∧ x < n) : ∀ (xs pre : List Int) (s : Nat), l = pre ++ xs → s < 2 ^ n →
    Ev (fun k => rows_half.l0 k (s : Int) l (l.length : Int) (pre.length : Int)) ((orAll s (xs.map Int.toNat) : Nat) : Int) := by
  intro xs
  induction xs with
  | nil =>
    intro pre s h0 hs
    refine Ev.succ ?_
    simp only [rows_half.l0, if_neg (mid_end h0)]
    exact Ev.some _
  | cons x xs ih =>
    intro pre s h0 hs
    have hx := hr x (by rw [h0]; simp)
    obtain ⟨m, rfl⟩ := Int.eq_ofNat_of_zero_le hx.1
    have hp2 := two_pow_lt63 (x := n) (by omega)
    have hm2 : 2 ^ m < 2 ^ n := Nat.pow_lt_pow_right (by omega) (by omega)
    have hs2 : s ||| 2 ^ m < 2 ^ n := Nat.or_lt_two_pow hs hm2
    refine Ev.succ ?_
    simp only [rows_half.l0, if_pos (mid_lt h0), if_pos (show (0 : Int) ≤ (pre.length : Int) by omega), mid_rd h0, mid_next h0 (by omega), if_pos (show (0 : Int) ≤ (m : Int) by omega), shl1_i64 (x := m) (by omega), or_i64 (a := s) (b := 2 ^ m) (by omega) (by omega), List.map_cons, Int.toNat_natCast, orAll_cons]
    exact ih (pre ++ [(m : Int)]) (s ||| 2 ^ m) (mid_mv h0) hs2
theorem half_ev (n : Nat) (hn : n ≤ 62) (l : List Int) (hl : l.length < 1000) (hr : ∀ x ∈ l, 0 ≤ x ∧ x < n) : Ev (fun k => rows_half.f k l) ((half5 l : Nat) : Int) := by
  unfold rows_half.f
  have hw : wrap64 ((l.length : Int) / 2) = ((l.length / 2 : Nat) : Int) := by rw [wrap_id (by omega) (by omega)]; omega
  simp only [hw, if_pos (show (0 : Int) ≤ ((l.length / 2 : Nat) : Int) by omega), if_pos (show ((l.length / 2 : Nat) : Int) ≤ (l.length : Int) by omega), Int.toNat_natCast, Option.bind_some]
  exact half_loop n hn (l.take (l.length / 2)) (by rw [List.length_take]; omega) (fun x hx => hr x (List.mem_of_mem_take hx)) _ [] 0 rfl (Nat.two_pow_pos _)
theorem formOf_range {n : Nat} (hn : 1 ≤ n) (kind k : Int) (l : List Int) : ∀ x ∈ formOf n kind k l, 0 ≤ x ∧ x < n := by
  intro x hx
  have : x ∈ l.map (toneOf n kind k) := by
    unfold formOf at hx
    split at hx
    · exact List.mem_reverse.1 hx
    · exact hx
  obtain ⟨y, _, rfl⟩ := List.mem_map.1 this
  exact ⟨Int.emod_nonneg _ (by omega), Int.emod_lt_of_pos _ (by omega)⟩
theorem half5_lt {n : Nat} {l : List Int} (hr : ∀ x ∈ l, 0 ≤ x ∧ x < n) : half5 l < 2 ^ n := by
  unfold half5
  refine orAll_lt _ (fun x hx => ?_) 0 (Nat.two_pow_pos _)
  obtain ⟨y, hy, rfl⟩ := List.mem_map.1 hx
  have := hr y (List.mem_of_mem_take hy)
  omega
theorem with_step {w W w1 : World} {S q n m : Nat} {a v v' : Value} {o : Obj} {xs ys : List Value} (ho : o.isCells = true) (y0 : BoxAt W S [a]) (y3 : Below S w W) (y1 : BoxAt W (S + 1) [v]) (y2 : W.ownsRow (S + 2) 38 2 v n xs)
    (hown : w1.ownsRow (S + 2) 38 2 v' m ys) (hg : ((W.drewN q).alloc o).grownBy w1 v.ownBlock) :
    BoxAt w1 (S + 1) [v] ∧ KeepsOthers W (w1.setCell ⟨S + 1, 0, none⟩ v') ∧ KpC (fun b o => b = S + 1 ∨ (S + 2 ≤ b ∧ ∃ cs, o = .cells cs 38)) W (w1.setCell ⟨S + 1, 0, none⟩ v') ∧ BoxAt (w1.setCell ⟨S + 1, 0, none⟩ v') S [a] ∧ Below S w (w1.setCell ⟨S + 1, 0, none⟩ v') ∧
      BoxAt (w1.setCell ⟨S + 1, 0, none⟩ v') (S + 1) [v'] ∧ (w1.setCell ⟨S + 1, 0, none⟩ v').ownsRow (S + 2) 38 2 v' m ys := by
  have g0 : W.grownBy ((W.drewN q).alloc o) none := grown_of_below (below_alloc (pw_below_drewN (Below.refl _ W) q) _) none
  have hge : ∀ k, v.ownBlock = some k → S + 2 ≤ k := fun k e => (y2.lt k e).1
  have hob : ∀ k p, v.ownBlock = some k → W.heap[k]? = some p → ∃ cs, p = .cells cs 38 := by
    intro k p e hp
    rcases y2.2 with ⟨rfl, _⟩ | ⟨g, cap, cur, rfl, _, hgg, _⟩
    · cases e
    · cases e; rw [hgg] at hp; cases hp; exact ⟨_, rfl⟩
  have hblk : ∀ b, b < W.heap.size → v.ownBlock ≠ some b → w1.heap[b]? = W.heap[b]? := fun b hb hne => (hg.block b (by have := g0.size; omega) (fun e => hne e.symm)).trans (g0.block b hb (by simp))
  have hsz : W.heap.size ≤ w1.heap.size := by have := g0.size; have := hg.size; omega
  have z0 : BoxAt w1 S [a] := y0.heap (hblk S y0.lt (fun e => by have := hge _ e; omega))
  have z1 : BoxAt w1 (S + 1) [v] := y1.heap (hblk _ y1.lt (fun e => by have := hge _ e; omega))
  have hkc : KpC (fun b o => b = S + 1 ∨ (S + 2 ≤ b ∧ ∃ cs, o = .cells cs 38)) W w1 := ⟨hsz, fun b p hx hp hc => by
    refine (hblk b (Array.getElem?_eq_some_iff.1 hp).1 (fun e => hx (.inr ⟨hge b e, hob b p e hp⟩))).trans hp⟩
  have hko : KeepsOthers W w1 := (KeepsOthers.of_grownBy g0 (fun j o e => by cases e)).trans (KeepsOthers.of_grownBy hg (fun j p e hp => by
    rcases y2.2 with ⟨rfl, _⟩ | ⟨g, cap, cur, rfl, _, hgg, _⟩
    · cases e
    · cases e
      have : ((W.drewN q).alloc o).heap[g]? = some (.cells cur 38) := (g0.block g (Array.getElem?_eq_some_iff.1 hgg).1 (by simp)).trans hgg
      have hp' : ((W.drewN q).alloc o).heap[g]? = some p := hp
      rw [this] at hp'; cases hp'; rfl))
  refine ⟨z1, hko.trans (KeepsOthers.setCell _ _ _), hkc.trans ⟨by simp [World.setCell], fun b p hx hp hc => (Below.heap_setCell _ _ _ _ (fun e => hx (.inl e))).trans hp⟩, z0.far (by simp) _, ?_, z1.put1 _, owns_far hown (by simp) _⟩
  refine Below.setCell (p := ⟨S + 1, 0, none⟩) ?_ (by simp) _
  exact (y3.grown g0 (by have := y0.lt; omega) (fun k e => by cases e)).grown hg (by have := y0.lt; have := g0.size; omega) (fun k e => by have := hge k e; omega)
theorem tog_nums {l : List Int} (hr : IsRow l) (x : Nat × Nat) : ∃ ta tb o p f : Nat, half5 (formOf l.length x.1 x.2 l) = ta ∧ half5 l = tb ∧ Go.bits .or .i64 (ta : Int) (tb : Int) = (o : Int) ∧ IntKind.i64.wrap ((2 : Int) ^ l.length) = (p : Int) ∧ wrap64 ((2 : Int) ^ l.length) = (p : Int) ∧ IntKind.i64.wrap ((p : Int) - 1) = (f : Int) ∧ wrap64 ((p : Int) - 1) = (f : Int) ∧ l.length ≤ 64 ∧ togB l x = decide (o = f) := by
  have h1 := hr.1; have h2 := hr.2.1
  have o1 := half5_lt (formOf_range (n := l.length) (by omega) x.1 x.2 l)
  have o2 := half5_lt hr.2.2.1
  have hp63 := two_pow_lt63 (x := l.length) (by omega)
  have hp0 := Nat.two_pow_pos l.length
  have h63 : (2 : Nat) ^ 63 = 9223372036854775808 := by decide
  refine ⟨_, _, _, 2 ^ l.length, 2 ^ l.length - 1, rfl, rfl, or_i64 (by omega) (by omega), ?_, ?_, ?_, ?_, by omega, rfl⟩
  · rw [← pow_cast]; generalize 2 ^ l.length = P at *; rw [i64_id (by omega) (by omega)]
  · rw [← pow_cast]; generalize 2 ^ l.length = P at *; rw [wrap_id (by omega) (by omega)]
  · generalize 2 ^ l.length = P at *; rw [i64_id (by omega) (by omega)]; omega
  · generalize 2 ^ l.length = P at *; rw [wrap_id (by omega) (by omega)]; omega
set_option maxHeartbeats 4000000 in
set_option maxRecDepth 100000 in
theorem rows_With.calls (A0 : Option Addr) (c0 : Nat) (l0 : List Int) (r1 : List S38) (r2 : Int) (w : World) (hr0 : Kd.C (Kd.int .i64) w A0 l0.length l0) (hc0 : l0.length ≤ c0) (h : rows_With.f l0 = some (r1, r2)) :
    Calls Tryd.prog 9 #[.slice A0 l0.length c0] w fun e w' => ∃ v0_ : Value, e = .returned (.tuple #[v0_, .int .i64 r2]) ∧ Kd.R k38 38 w' w.heap.size (fun _ => True) v0_ r1 ∧ Below w.heap.size w w' := by
  have HR0 := Aside0.mk hr0
  have HC0 := Aside0.mk hc0
  obtain ⟨kv0, hv0⟩ := Ev.rounds (g := fun k => rows_row_valid.f k l0) (valid_ev l0)
  have HV0 := Aside0.mk (fun W (hb : Below w.heap.size w W) => rows_row_valid.calls kv0 A0 c0 l0 _ W (Kd.C_below hr0 hb) hc0 hv0)
  have H := Aside0.mk h
  clear hr0 hc0 hv0 h
  refine (callsIn_wide (n := 3)).1 ?_
  refine callsIn_of_wp_marks Tryd.func9 rfl trivial ?_ rfl
  simp only [Tryd.ntmps9, List.size_toArray, List.length_cons, List.length_nil, Nat.reduceAdd, Nat.reduceSub, Array.replicate_succ, Array.replicate_zero, List.push_toArray, List.append_toArray, List.nil_append, List.cons_append]
  obtain ⟨W0, hW0⟩ : ∃ W0, w.alloc (.cells #[.slice A0 l0.length c0] 22) = W0 := ⟨_, rfl⟩
  have HB0 : Aside0 (Below w.heap.size w W0) := ⟨by rw [← hW0]; exact below_alloc (Below.refl _ _) _⟩
  have HX0 : Aside0 (BoxAt W0 w.heap.size [.slice A0 l0.length c0] ∧ W0.heap.size = w.heap.size + 1) := ⟨by rw [← hW0]; exact ⟨BoxAt.new w _ _, by simp⟩⟩
  have q0 := HX0.out.1.cell 0 _ rfl
  have zW0 := HX0.out.2
  by_cases hr0 : IsRow l0
  · by_cases hev : l0.length % 2 = 0
    · have e0 : decide (IsRow l0) = true := decide_eq_true hr0
      rw [e0] at HV0
      have hne : ((l0.length : Int) % 2 == 1) = false := beq_eq_false_iff_ne.2 (by omega)
      have hne2 : (Int.tmod (l0.length : Int) 2 == 1) = false := by rw [Int.tmod_eq_emod_of_nonneg (by omega)]; exact hne
      gi_wp2_with (first | (refine ⟨trivial, ?_⟩; (try rw [hW0]); gi_at_call 44; (with_reducible refine (callsIn_wide.2 (HV0.out _ HB0.out)).mono ?_); rintro e w' ⟨rfl, ⟨q, rfl⟩⟩; clear HV0 hW0) | (refine ⟨trivial, ?_⟩; gi_at_call 45; (with_reducible refine (callsIn_wide.2 (whole_calls _ _ _ _)).mono ?_); rintro e w' ⟨rfl, hg⟩))
      have hz1 : ((W0.drewN q).alloc (.cells #[.slice none 0 0] 24)).heap.size = w.heap.size + 2 := by rw [World.size_alloc]; exact congrArg (· + 1) zW0
      have hg0 : W0.grownBy ((W0.drewN q).alloc (.cells #[.slice none 0 0] 24)) none := grown_of_below (below_alloc (pw_below_drewN (Below.refl _ W0) q) _) none
      have x1' : BoxAt ((W0.drewN q).alloc (.cells #[.slice none 0 0] 24)) (w.heap.size + 1) [.slice none 0 0] := by
        have h := BoxAt.new (W0.drewN q) [.slice none 0 0] 24
        rw [show (W0.drewN q).heap.size = w.heap.size + 1 from zW0] at h
        exact h
      have x0 := (HX0.out.1.grown hg0).grown hg
      have x1 := x1'.grown hg
      have hsz : w.heap.size + 2 ≤ w'.heap.size := by have := hg.size; omega
      have hbw : Below w.heap.size w w' := (HB0.out.grown hg0 HB0.out.size (fun k e => by cases e)).grown hg (by omega) (fun k e => by cases e)
      have HX := Aside0.mk (And.intro x0 x1)
      have HBW := Aside0.mk hbw
      have HSZ := Aside0.mk hsz
      have hC : ∀ W, KpC (fun b o => b = w.heap.size + 1 ∨ (w.heap.size + 2 ≤ b ∧ ∃ cs, o = .cells cs 38)) w' W → Kd.C (Kd.int .i64) W A0 l0.length l0 := fun W hk => C_kpc (Kd.C_below HR0.out hbw) hk (fun a o ha hm hb => by
        have := C_lt HR0.out a ha hm
        rcases hb with e | e
        · omega
        · have := e.1; omega)
      clear hg hg0 hz1 x1' x0 x1 hbw hsz q0 zW0 hne hne2
      refine range_fs rfl (by omega) (gf := 46) (fs := #[.agg #[.int .i64 (l0.length : Int), .slice A0 l0.length c0]]) (lb := #[]) rfl trivial (enters_of Tryd.func46 (by kernel_rfl) rfl)
        (forms_seq (fun b o => b = w.heap.size + 1 ∨ (w.heap.size + 2 ≤ b ∧ ∃ cs, o = .cells cs 38)) l0.length (by have := hr0.1; omega) (by have := hr0.2.1; omega) A0 c0 l0 (by have := hr0.2.1; omega) (row_small hr0) HC0.out w' (fun b cs hb => by
          have := HSZ.out
          rcases hb with e | ⟨_, cs', e⟩
          · omega
          · cases e) hC)
        (fun x W vals hE => by obtain ⟨A, c, rfl, _⟩ := hE; rfl)
        (fun A B h => KeepsOthers.of_grownBy h (fun j o e => by cases e))
        (fun h k => h.trans k)
        (fun W l o o' hl ho hc => KpC.putObj W ho hc)
        (fun pre W => (BoxAt W w.heap.size [.slice A0 l0.length c0] ∧ Below w.heap.size w W ∧ ∃ A c, BoxAt W (w.heap.size + 1) [.slice A (withTo l0 pre).length c] ∧ W.ownsRow (w.heap.size + 2) 38 2 (.slice A (withTo l0 pre).length c) (withTo l0 pre).length (two37 (withTo l0 pre))))
        (fun _ _ _ => False)
        ?hI (fun _ _ _ _ _ h _ _ => h) ?hIs (fun _ _ _ _ h _ => h) ?h0
        (fun x a' W => ∃ Bx A c, a' = { tmps := #[.slice A0 l0.length c0, .pointer (some ⟨w.heap.size, 0, none⟩), .slice none 0 0, .int .i64 0, .slice A0 l0.length c0, .pointer (some ⟨w.heap.size + 1, 0, none⟩), .pointer (some ⟨Bx, 0, none⟩), .slice A0 l0.length c0, .slice A0 l0.length c0, .bool true, .bool false, .bool false, .slice A0 l0.length c0, .int .i64 l0.length, .int .i64 ((l0.length : Int) % 2), .bool false, .bool false, .slice A0 l0.length c0, .agg #[.int .i64 l0.length, .slice A0 l0.length c0], .func (.func 46) #[.agg #[.int .i64 l0.length, .slice A0 l0.length c0]] #[], .agg #[.int .i64 x.1, .int .i64 x.2, .slice A (formOf l0.length x.1 x.2 l0).length c], undef, undef, undef, undef, undef, undef, undef, undef, undef, undef, undef, undef, undef, undef, undef, undef, undef], defers := [] } ∧
          BoxAt W Bx [.int .i64 x.1, .int .i64 x.2, .slice A (formOf l0.length x.1 x.2 l0).length c] ∧ Kd.C (Kd.int .i64) W A (formOf l0.length x.1 x.2 l0).length (formOf l0.length x.1 x.2 l0) ∧ (formOf l0.length x.1 x.2 l0).length ≤ c)
        ?hAx ?assign ?body ?done (fun _ _ _ _ _ _ _ h _ => h.elim)
      case hI =>
        rintro s A B row ⟨y0, y3, A1, c1, y1, y2⟩ hg hr
        exact ⟨y0.own hg (fun r e => (hr r e).2), y3.grown hg y3.size (fun k e => by have := (hr k e).1; have := HBW.out.size; omega), A1, c1, y1.own hg (fun r e => (hr r e).2), owns_own y2 hg (fun r e => (hr r e).2)⟩
      case hIs =>
        rintro s A B ⟨y0, y3, A1, c1, y1, y2⟩ hg
        exact ⟨y0.grown hg, y3.grown hg y3.size (fun k e => by cases e), A1, c1, y1.grown hg, owns_own y2 hg (fun r e => by cases e)⟩
      case h0 => exact ⟨HX.out.1, HBW.out, none, 0, HX.out.2, World.ownsRow_nil _ _ _ _⟩
      case hAx =>
        rintro x a' s A B row ⟨Bx, A', c, e, hb, hC, hl⟩ hg hr
        exact ⟨Bx, A', c, e, hb.own hg (fun r e => (hr r e).2), C_kpc hC (own_kpc hg hr) (fun _ _ _ _ h => h), hl⟩
      case assign =>
        rintro l pre x vals W K hI ⟨A, c, rfl, hCv, hlv⟩ hK
        have HK := Aside0.mk hK
        have HI := Aside0.mk hI
        have HCV := Aside0.mk hCv
        have HLV := Aside0.mk hlv
        clear hK hI hCv hlv hC
        gi_wp2
        have g1 : W.grownBy (W.alloc (.cells #[.int .i64 (x.1 : Int), .int .i64 (x.2 : Int), .slice A (formOf l0.length x.1 x.2 l0).length c] 68)) none := World.grownBy_alloc W _ none
        obtain ⟨y0, y3, A1, c1, y1, y2⟩ := HI.out
        exact HK.out _ _ (KeepsOthers.of_grownBy g1 (fun j o e => by cases e)) (KpC.of_grown g1)
          ⟨y0.grown g1, y3.grown g1 y3.size (fun k e => by cases e), A1, c1, y1.grown g1, owns_own y2 g1 (fun r e => by cases e)⟩
          ⟨W.heap.size, A, c, rfl, BoxAt.new W _ _, C_kpc HCV.out (KpC.of_grown (X := fun _ _ => False) g1) (fun _ _ _ _ h => h), HLV.out⟩
      case body =>
        rintro l pre x rest a' W hlw hloop hx ⟨y0, y3, A1, c1, y1, y2⟩ ⟨Bx, A, c, rfl, hb, hCx, hlx⟩
        have hfl : (formOf l0.length x.1 x.2 l0).length = l0.length := by unfold formOf; split <;> simp
        have hn10 := hr0.2.1
        have hn2 := hr0.1
        obtain ⟨k1, hk1⟩ := Ev.rounds (g := fun k => rows_half.f k (formOf l0.length x.1 x.2 l0)) (half_ev l0.length (by omega) _ (by omega) (formOf_range (by omega) _ _ _))
        obtain ⟨k2, hk2⟩ := Ev.rounds (g := fun k => rows_half.f k l0) (half_ev l0.length (by omega) _ (by omega) hr0.2.2.1)
        have HF1 := Aside0.mk (fun p => rows_half.calls k1 A c _ _ (W.drewN p) hCx hlx hk1)
        have HF2 := Aside0.mk (fun p => rows_half.calls k2 A0 c0 l0 _ (W.drewN p) (Kd.C_below HR0.out (pw_below_drewN y3 p)) HC0.out hk2)
        obtain ⟨ta, tb, o, p, f, hta, htb, e1, e2, e3, e4, e5, hn, e6⟩ := tog_nums hr0 x
        rw [hta] at HF1
        rw [htb] at HF2
        have b2 := hb.cell 2 _ rfl
        have b0 := hb.cell 0 _ rfl
        have b1 := hb.cell 1 _ rfl
        have s0 := y0.cell 0 _ rfl
        have u0 := y1.cell 0 _ rfl
        have uf := y1.frozen 0
        have HY := Aside0.mk (And.intro y0 (And.intro y3 (And.intro y1 y2)))
        have HB := Aside0.mk hb
        have HHH := Aside0.mk (And.intro hCx hlx)
        have HE6 := Aside0.mk e6
        have HLEN : Aside0 ((withTo l0 pre).length < 100) := ⟨by
          have h1 := congrArg List.length hx
          have h2 : (formPairs l0.length).length = 4 * l0.length := by simp [formPairs, pairsTo, List.range_succ]; omega
          have h3 : (withTo l0 pre).length ≤ pre.length := by unfold withTo; rw [List.length_map]; exact List.length_filter_le _ _
          rw [h2] at h1; simp at h1; omega⟩
        clear hfl hn10 hn2 hk1 hk2 hta htb y0 y3 y1 y2 hb hCx hlx hC e6 hx
        gi_wp2
        refine region_quiet_lit (by kernel_rfl) (by kernel_rfl) ?_
        repeat (refine wpQuietIn_step (fun _ _ _ _ => trivial) (fun K hK => ?_); go_simp; refine hK _ ?_; clear hK K)
        refine wpQuietIn_step (fun _ _ _ _ => trivial) (fun K hK => ?_)
        go_simp
        refine ⟨_, fun p => CallsIn.quiet_of (CallsIn.inRound l (callsIn_wide.2 ((HF1.out p).mono (fun e w' h => ⟨h.1, h.2.out⟩)))), hK _ ?_⟩
        clear hK K
        repeat (refine wpQuietIn_step (fun _ _ _ _ => trivial) (fun K hK => ?_); go_simp; refine hK _ ?_; clear hK K)
        refine wpQuietIn_step (fun _ _ _ _ => trivial) (fun K hK => ?_)
        go_simp
        refine ⟨_, fun p => CallsIn.quiet_of (CallsIn.inRound l (callsIn_wide.2 ((HF2.out p).mono (fun e w' h => ⟨h.1, h.2.out⟩)))), hK _ ?_⟩
        clear hK K
        repeat (refine wpQuietIn_step (fun _ _ _ _ => trivial) (fun K hK => ?_); go_simp; refine hK _ ?_; clear hK K)
        refine wpQuietIn_nil ?_
        rintro _ ⟨q, rfl⟩
        clear HF1 HF2 b2 s0 e1 e2 e3 e4 e5 hn
        by_cases hof : o = f
        · have heq : ((o : Int) == (f : Int)) = true := beq_iff_eq.2 (by omega)
          have HT := Aside0.mk (HE6.out.trans (decide_eq_true hof))
          clear hof
          obtain ⟨i0, hi, hz0, hz1, hz2⟩ := info_parts info38
          have HROW := Aside0.mk (own_alloc (pw_own_drewN HY.out.2.2.2 q) (.cells #[.int .i64 (x.1 : Int), .int .i64 (x.2 : Int)] 38))
          have HNC := Aside0.mk (BoxAt.new (W.drewN q) [.int .i64 (x.1 : Int), .int .i64 (x.2 : Int)] 38)
          gi_wp2_with (gi_at_builtin; refine wpListIn_append_own _ rfl (.tmp 32) (.tmp 35) 24 rfl (w.heap.size + 2) 38 i0 _ 2 16 Tryd.underlying24 hi hz0 hz1 hz2 rfl (by decide) _ _ _ rfl HROW.out ⟨W.heap.size, 0, none⟩ 1 1 [.int .i64 (x.1 : Int), .int .i64 (x.2 : Int)] rfl rfl (fun j u hu => by rw [add_plain]; exact HNC.out.cell j u hu) (by simp [Value.oneCell']) ?ab ?ab2 ?ab3 ?_; (case ab => have := HLEN.out; simp only [maxLen]; omega); (case ab2 => have := HLEN.out; omega); (case ab3 => have := HY.out.2.2.1.lt; simp only [World.size_alloc, World.drewN]; omega); intro v' w1 hown' hgrow hnil; obtain ⟨A9, c9, e9⟩ := own_slice hown'; subst e9; have hst := with_step (q := q) rfl HY.out.1 HY.out.2.1 HY.out.2.2.1 HY.out.2.2.2 hown' hgrow; have t0 := hst.1.cell 0 _ rfl; have tf := hst.1.frozen 0; have HST := Aside0.mk hst; clear hown' hgrow hnil hst)
          obtain ⟨-, s1, s2, s3, s4, s5, s6⟩ := HST.out
          have hws := withTo_snoc l0 pre x
          rw [HT.out, if_pos rfl] at hws
          have hwl : (withTo l0 (pre ++ [x])).length = (withTo l0 pre).length + 1 := by rw [hws]; simp
          refine ⟨s1, s2, s3, s4, A9, c9, by rw [hwl]; exact s5, ?_⟩
          rw [hwl, hws, two37_snoc]
          exact s6
        · have heq : ((o : Int) == (f : Int)) = false := beq_eq_false_iff_ne.2 (by omega)
          have HT := Aside0.mk (HE6.out.trans (decide_eq_false hof))
          clear hof
          gi_wp2
          obtain ⟨y0, y3, y1, y2⟩ := HY.out
          have hws := withTo_snoc l0 pre x
          rw [HT.out] at hws
          simp only [Bool.false_eq_true, if_false, List.append_nil] at hws
          refine ⟨⟨Nat.le_refl _, fun _ _ h _ => h⟩, ⟨Nat.le_refl _, fun _ _ _ h _ => h⟩, y0.drewN q, pw_below_drewN y3 q, A1, c1, ?_, ?_⟩
          · rw [hws]; exact y1.drewN q
          · rw [hws]; exact pw_own_drewN y2 q
      case done =>
        rintro D W hD ⟨y0, y3, A1, c1, y1, y2⟩ hK
        have t0 := y1.cell 0 _ rfl
        have HY := Aside0.mk (And.intro y3 (And.intro y1 y2))
        have HK := Aside0.mk hK
        clear y0 y3 y1 y2 hK hC
        gi_wp2
        refine ⟨by simp, .inl ⟨_, _, rfl, run_takeDeferred HK.out, ?_⟩⟩
        obtain ⟨y3, y1, y2⟩ := HY.out
        have h := H.out
        unfold rows_With.f at h
        rw [if_pos ⟨hr0, hev⟩] at h
        simp only [Option.some.injEq, Prod.mk.injEq] at h
        obtain ⟨rfl, rfl⟩ := h
        have hgp := grownBy_putObj' W D (.deferred none)
        have y2' := owns_own y2 hgp (fun r e => by cases e; exact ⟨_, HK.out, rfl⟩)
        refine ⟨_, results_list (rs := [.tmp 2, .tmp 3]) rfl (by simp) (.tmp (.tmp .nil)), _, rfl, R_two37 (own_less y2' (by omega)), ?_⟩
        exact y3.grown hgp y3.size (fun k e => by cases e; have := HBW.out.size; omega)
    · have e0 : decide (IsRow l0) = true := decide_eq_true hr0
      rw [e0] at HV0
      have hne : ((l0.length : Int) % 2 == 1) = true := beq_iff_eq.2 (by omega)
      gi_wp2_with (refine ⟨trivial, ?_⟩; (try rw [hW0]); gi_at_call 44; (with_reducible refine (callsIn_wide.2 (HV0.out _ HB0.out)).mono ?_); rintro e w' ⟨rfl, ⟨q, rfl⟩⟩; clear HV0 hW0)
      have h := H.out
      unfold rows_With.f at h
      rw [if_neg (fun hh => hev hh.2)] at h
      simp only [Option.some.injEq, Prod.mk.injEq] at h
      obtain ⟨rfl, rfl⟩ := h
      exact ⟨_, results_list (rs := [.tmp 2, .tmp 3]) rfl (by simp) (.tmp (.tmp .nil)), _, rfl, Kd.R_nil _ _ _ _ _, pw_below_drewN HB0.out q⟩
  · have e0 : decide (IsRow l0) = false := decide_eq_false hr0
    rw [e0] at HV0
    gi_wp2_with (refine ⟨trivial, ?_⟩; (try rw [hW0]); gi_at_call 44; (with_reducible refine (callsIn_wide.2 (HV0.out _ HB0.out)).mono ?_); rintro e w' ⟨rfl, ⟨q, rfl⟩⟩; clear HV0 hW0)
    have h := H.out
    unfold rows_With.f at h
    rw [if_neg (fun hh => hr0 hh.1)] at h
    simp only [Option.some.injEq, Prod.mk.injEq] at h
    obtain ⟨rfl, rfl⟩ := h
    exact ⟨_, results_list (rs := [.tmp 2, .tmp 3]) rfl (by simp) (.tmp (.tmp .nil)), _, rfl, Kd.R_nil _ _ _ _ _, pw_below_drewN HB0.out q⟩

end Go.Proofs.YtfpnojcbhbkfaaaDoor.P
namespace Go.Proofs.YtfpnojcbhbkfaaaDoor.P
open Go.RowKit Go.Proofs.YtfpnojcbhbkfaaaDoorW.PrintWords Go.Proofs.YtfpnojcbhbkfaaaDoorW.PrintLast Go.Proofs.YtfpnojcbhbkfaaaDoorW.PrintMore
attribute [local go_sem] max2_int min2_int max_two min_two max_three min_three max_four min_four   -- for this text's walks alone
set_option linter.unusedVariables false
set_option linter.unusedSimpArgs false

/-! ### slices_Equal_int_int: function 13 -/
def slices_Equal_int_int.l0 : Nat → List Int → List Int → Int → Int → Option (Bool)
  | 0, _, _, _, _ => none
  | k + 1, x0, x1, x12, x13 => if x13 < x12 then (if 0 ≤ x13 then (if x13 < (x0.length : Int) then (if x13 < (x1.length : Int) then (if (rd x0 x13) = (rd x1 x13) then (slices_Equal_int_int.l0 k x0 x1 x12 (wrap64 (x13 + 1))) else (some false)) else (none)) else (none)) else (none)) else (some true)
def slices_Equal_int_int.f (k : Nat) (l0 : List Int) (l1 : List Int) : Option (Bool) := if (l0.length : Int) = (l1.length : Int) then (slices_Equal_int_int.l0 k l0 l1 (l0.length : Int) 0) else (some false)
theorem slices_Equal_int_int.mono_l : ∀ k, (∀ y0 y1 y2 y3, LeO (slices_Equal_int_int.l0 k y0 y1 y2 y3) (slices_Equal_int_int.l0 (k + 1) y0 y1 y2 y3))
  | 0 => fun _ _ _ _ r h => by simp [slices_Equal_int_int.l0] at h
  | k + 1 => by
    have ih0 := slices_Equal_int_int.mono_l k
    · intro y0 y1 y2 y3
      unfold slices_Equal_int_int.l0
      repeat' first
      | (with_reducible exact ih0 _ _ _ _)
      | (with_reducible exact LeO.refl _)
      | (with_reducible exact LeO.none _)
      | (with_reducible refine LeO.ite ?_ ?_)
      | (with_reducible refine LeO.bind ?_ (fun _ => ?_))
      | exact ih0 _ _ _ _
      | exact LeO.none _
      | refine LeO.ite ?_ ?_
      | refine LeO.bind ?_ (fun _ => ?_)
theorem slices_Equal_int_int.mono : ∀ a0 a1 k, LeO (slices_Equal_int_int.f k a0 a1) (slices_Equal_int_int.f (k + 1) a0 a1) := by
  intro a0 a1 k
  have ih0 := slices_Equal_int_int.mono_l k
  unfold slices_Equal_int_int.f
  repeat' first
      | (with_reducible exact ih0 _ _ _ _)
      | (with_reducible exact LeO.refl _)
      | (with_reducible exact LeO.none _)
      | (with_reducible refine LeO.ite ?_ ?_)
      | (with_reducible refine LeO.bind ?_ (fun _ => ?_))
      | exact ih0 _ _ _ _
      | exact LeO.none _
      | refine LeO.ite ?_ ?_
      | refine LeO.bind ?_ (fun _ => ?_)
set_option maxHeartbeats 8000000 in
set_option maxRecDepth 100000 in
theorem slices_Equal_int_int.calls (k : Nat) (A0 : Option Addr) (c0 : Nat) (l0 : List Int) (A1 : Option Addr) (c1 : Nat) (l1 : List Int) (r : Bool) (w : World) (hr0 : Kd.C (Kd.int .i64) w A0 l0.length l0) (hc0 : l0.length ≤ c0) (hr1 : Kd.C (Kd.int .i64) w A1 l1.length l1) (hc1 : l1.length ≤ c1) (h : slices_Equal_int_int.f k l0 l1 = some r) :
    Calls Tryd.prog 13 #[.slice A0 l0.length c0, .slice A1 l1.length c1] w fun e w' => e = .returned (.bool r) ∧ Drawn0 w w' := by
  have HR0 := Aside0.mk hr0
  have HC0 := Aside0.mk hc0
  clear hr0 hc0
  have HR1 := Aside0.mk hr1
  have HC1 := Aside0.mk hc1
  clear hr1 hc1
  have H : (if (l0.length : Int) = (l1.length : Int) then (slices_Equal_int_int.l0 k l0 l1 (l0.length : Int) 0) else (some false)) = some r := h
  clear h
  by_cases c3 : (l0.length : Int) = (l1.length : Int)
  · rw [if_pos c3] at H
    have c3b0 : ((l0.length : Int) == (l1.length : Int)) = true := beq_iff_eq.mpr c3
    have c3b1 : ((l0.length : Int) != (l1.length : Int)) = false := bne_eq_false_iff_eq.mpr c3
    have c3b2 : (l0.length == l1.length) = true := by first | simpa using c3 | (simp at c3 ⊢; omega)
    clear c3
    have H' := Aside0.mk H
    clear H
    go_enter Tryd.func13, Tryd.ntmps13
    go_wp2
    repeat (go_quiet (fail); try go_wp2)
    go_loopg [13] k (fun kq v13 w' => ∃ (x13_1 : Int), v13 = .int .i64 x13_1 ∧ Aside0 (slices_Equal_int_int.l0 kq l0 l1 (l0.length : Int) x13_1 = some r) ∧ Aside0 (kq ≤ k) ∧ Drawn0 w w')
    case atStart => exact ⟨(0), (by first | rfl | (simp; done) | (simp [*]; done)), H', ⟨Nat.le_refl _⟩, by repeat (first | exact Drawn0.refl _ | apply Drawn0.step)⟩
    case round =>
      clear H'
      try clear c1
      try clear p2
      try clear c3
      try clear c3b0
      try clear c3b1
      try clear c3b2
      obtain ⟨x13_1, rfl, HA, HK1, ⟨m1, rfl⟩⟩ := hrel
      cases gk with
      | zero => exact absurd HA.out (by simp [slices_Equal_int_int.l0])
      | succ k1 =>
        have H := HA.out
        clear HA
        simp only [slices_Equal_int_int.l0] at H
        by_cases c4 : x13_1 < (l0.length : Int)
        · rw [if_pos c4] at H
          have c4b0 : decide (x13_1 < (l0.length : Int)) = true := decide_eq_true c4
          clear c4
          by_cases c5 : 0 ≤ x13_1
          · rw [if_pos c5] at H
            have c5b0 : decide (0 ≤ x13_1) = true := decide_eq_true c5
            clear c5
            by_cases c6 : x13_1 < (l0.length : Int)
            · rw [if_pos c6] at H
              have c6b0 : decide (x13_1 < (l0.length : Int)) = true := decide_eq_true c6
              clear c6
              by_cases c7 : x13_1 < (l1.length : Int)
              · rw [if_pos c7] at H
                have c7b0 : decide (x13_1 < (l1.length : Int)) = true := decide_eq_true c7
                clear c7
                by_cases c8 : (rd l0 x13_1) = (rd l1 x13_1)
                · rw [if_pos c8] at H
                  have c8b0 : ((rd l0 x13_1) == (rd l1 x13_1)) = true := beq_iff_eq.mpr c8
                  have c8b1 : ((rd l0 x13_1) != (rd l1 x13_1)) = false := bne_eq_false_iff_eq.mpr c8
                  clear c8
                  have H' := Aside0.mk H
                  clear H
                  have p1001 : 0 ≤ (x13_1 : Int) := of_decide_eq_true (by first | (with_reducible assumption) | assumption)
                  have q1001 : x13_1 < (l0.length : Int) := of_decide_eq_true (by first | (with_reducible assumption) | assumption)
                  obtain ⟨ad1001, e1001, hx1001_0⟩ := Kd.at_int HR0.out x13_1 p1001 q1001
                  cases e1001
                  replace p1001 := eq_true p1001
                  replace q1001 := eq_true q1001
                  have p1002 : 0 ≤ (x13_1 : Int) := of_decide_eq_true (by first | (with_reducible assumption) | assumption)
                  have q1002 : x13_1 < (l1.length : Int) := of_decide_eq_true (by first | (with_reducible assumption) | assumption)
                  obtain ⟨ad1002, e1002, hx1002_0⟩ := Kd.at_int HR1.out x13_1 p1002 q1002
                  cases e1002
                  replace p1002 := eq_true p1002
                  replace q1002 := eq_true q1002
                  go_wp2
                  repeat (go_quiet (fail); try go_wp2)
                  go_roundg k1
                  case measure => have := HK1.out; omega
                  case rel => exact ⟨(wrap64 (x13_1 + 1)), (by first | rfl | (simp; done) | (simp [*]; done)), H', ⟨by have := HK1.out; omega⟩, by repeat (first | exact Drawn0.refl _ | apply Drawn0.step)⟩
                · rw [if_neg c8] at H
                  have c8b0 : ((rd l0 x13_1) == (rd l1 x13_1)) = false := beq_eq_false_iff_ne.mpr c8
                  have c8b1 : ((rd l0 x13_1) != (rd l1 x13_1)) = true := bne_iff_ne.mpr c8
                  obtain rfl := Option.some.inj H
                  have p1001 : 0 ≤ (x13_1 : Int) := of_decide_eq_true (by first | (with_reducible assumption) | assumption)
                  have q1001 : x13_1 < (l0.length : Int) := of_decide_eq_true (by first | (with_reducible assumption) | assumption)
                  obtain ⟨ad1001, e1001, hx1001_0⟩ := Kd.at_int HR0.out x13_1 p1001 q1001
                  cases e1001
                  replace p1001 := eq_true p1001
                  replace q1001 := eq_true q1001
                  have p1002 : 0 ≤ (x13_1 : Int) := of_decide_eq_true (by first | (with_reducible assumption) | assumption)
                  have q1002 : x13_1 < (l1.length : Int) := of_decide_eq_true (by first | (with_reducible assumption) | assumption)
                  obtain ⟨ad1002, e1002, hx1002_0⟩ := Kd.at_int HR1.out x13_1 p1002 q1002
                  cases e1002
                  replace p1002 := eq_true p1002
                  replace q1002 := eq_true q1002
                  go_wp2
                  repeat (go_quiet (fail); try go_wp2)
                  go_ret
                  exact ⟨by first | rfl | (simp; done) | (simp [*]; done), by repeat (first | exact Drawn0.refl _ | apply Drawn0.step)⟩
              · rw [if_neg c7] at H
                exact absurd H (by simp)
            · rw [if_neg c6] at H
              exact absurd H (by simp)
          · rw [if_neg c5] at H
            exact absurd H (by simp)
        · rw [if_neg c4] at H
          have c4b0 : decide (x13_1 < (l0.length : Int)) = false := decide_eq_false c4
          clear c4
          obtain rfl := Option.some.inj H
          go_wp2
          repeat (go_quiet (fail); try go_wp2)
          go_ret
          exact ⟨by first | rfl | (simp; done) | (simp [*]; done), by repeat (first | exact Drawn0.refl _ | apply Drawn0.step)⟩
  · rw [if_neg c3] at H
    have c3b0 : ((l0.length : Int) == (l1.length : Int)) = false := beq_eq_false_iff_ne.mpr c3
    have c3b1 : ((l0.length : Int) != (l1.length : Int)) = true := bne_iff_ne.mpr c3
    have c3b2 : (l0.length == l1.length) = false := by first | simpa using c3 | (simp at c3 ⊢; omega)
    obtain rfl := Option.some.inj H
    go_enter Tryd.func13, Tryd.ntmps13
    go_wp2
    repeat (go_quiet (fail); try go_wp2)
    go_ret
    exact ⟨by first | rfl | (simp; done) | (simp [*]; done), by repeat (first | exact Drawn0.refl _ | apply Drawn0.step)⟩

end Go.Proofs.YtfpnojcbhbkfaaaDoor.P
namespace Go.Proofs.YtfpnojcbhbkfaaaDoor.P
open Go.RowKit Go.Proofs.YtfpnojcbhbkfaaaDoorW.PrintWords Go.Proofs.YtfpnojcbhbkfaaaDoorW.PrintLast Go.Proofs.YtfpnojcbhbkfaaaDoorW.PrintMore
attribute [local go_sem] max2_int min2_int max_two min_two max_three min_three max_four min_four   -- for this text's walks alone
set_option linter.unusedVariables false
set_option linter.unusedSimpArgs false

/-! ### rows_row_steps: function 81 -/
def rows_row_steps.l0 : Nat → List Int → List Int → Int → Option (List Int)
  | 0, _, _, _ => none
  | k + 1, x0, x3, x4 => if x4 < (x0.length : Int) then (if 0 ≤ x4 then (if 0 ≤ (wrap64 (x4 - 1)) then (if (wrap64 (x4 - 1)) < (x0.length : Int) then ((rows_mod.f (wrap64 ((rd x0 x4) - (rd x0 (wrap64 (x4 - 1))))) (x0.length : Int)).bind fun t1003 => (if x3.length < 17592186044416 then (rows_row_steps.l0 k x0 (x3 ++ [t1003]) (wrap64 (x4 + 1))) else (none))) else (none)) else (none)) else (none)) else (some x3)
def rows_row_steps.f (k : Nat) (l0 : List Int) : Option (List Int) := rows_row_steps.l0 k l0 ([] : List Int) 1
theorem rows_row_steps.mono_l : ∀ k, (∀ y0 y1 y2, LeO (rows_row_steps.l0 k y0 y1 y2) (rows_row_steps.l0 (k + 1) y0 y1 y2))
  | 0 => fun _ _ _ r h => by simp [rows_row_steps.l0] at h
  | k + 1 => by
    have ih0 := rows_row_steps.mono_l k
    · intro y0 y1 y2
      unfold rows_row_steps.l0
      repeat' first
      | (with_reducible exact ih0 _ _ _)
      | (with_reducible exact LeO.refl _)
      | (with_reducible exact LeO.none _)
      | (with_reducible refine LeO.ite ?_ ?_)
      | (with_reducible refine LeO.bind ?_ (fun _ => ?_))
      | exact ih0 _ _ _
      | exact LeO.none _
      | refine LeO.ite ?_ ?_
      | refine LeO.bind ?_ (fun _ => ?_)
theorem rows_row_steps.mono : ∀ a0 k, LeO (rows_row_steps.f k a0) (rows_row_steps.f (k + 1) a0) := by
  intro a0 k
  have ih0 := rows_row_steps.mono_l k
  unfold rows_row_steps.f
  repeat' first
      | (with_reducible exact ih0 _ _ _)
      | (with_reducible exact LeO.refl _)
      | (with_reducible exact LeO.none _)
      | (with_reducible refine LeO.ite ?_ ?_)
      | (with_reducible refine LeO.bind ?_ (fun _ => ?_))
      | exact ih0 _ _ _
      | exact LeO.none _
      | refine LeO.ite ?_ ?_
      | refine LeO.bind ?_ (fun _ => ?_)
def rows_row_steps.T5 : Bool × List (List Nat × List Nat) := (true, [([], []), ([], []), ([], []), ([1, 2], [1, 2]), ([3], [3]), ([], []), ([], []), ([6], [6]), ([5, 7], [5, 7]), ([8], [8]), ([4, 9], [4, 9]), ([], []), ([11], [11]), ([10, 12], [10, 12]), ([13], [13]), ([0, 14, 13], [0, 14]), ([15, 15, 0, 1, 2, 3, 4, 5, 6, 7, 8, 9, 10, 11, 12, 13, 14, 15], [0, 15])])
def rows_row_steps.B5 : List Nat := [0, 0, 0, 6, 14, 0, 0, 64, 224, 480, 1022, 0, 2048, 8190, 16382, 32767, 65535]
theorem rows_row_steps.tab5 : rtab .any (opsOf Tryd.f81 5) = rows_row_steps.T5 := by kernel_rfl
theorem rows_row_steps.bits5 : waitsOk rows_row_steps.T5.2 rows_row_steps.B5 = true := by kernel_rfl
set_option maxHeartbeats 8000000 in
set_option maxRecDepth 100000 in
theorem rows_row_steps.calls (k : Nat) (A0 : Option Addr) (c0 : Nat) (l0 : List Int) (r : List Int) (w : World) (hr0 : Kd.C (Kd.int .i64) w A0 l0.length l0) (hc0 : l0.length ≤ c0) (h : rows_row_steps.f k l0 = some r) :
    Calls Tryd.prog 81 #[.slice A0 l0.length c0] w fun e w' => ∃ v0_ : Value, e = .returned (v0_) ∧ Kd.R (Kd.int .i64) 3 w' w.heap.size (fun _ => True) v0_ r ∧ Below w.heap.size w w' := by
  have HR0 := Aside0.mk hr0
  have HC0 := Aside0.mk hc0
  clear hr0 hc0
  have HB := Aside0.mk (Below.refl w.heap.size w)
  have H : (rows_row_steps.l0 k l0 ([] : List Int) 1) = some r := h
  clear h
  have H' := Aside0.mk H
  clear H
  go_enter Tryd.func81, Tryd.ntmps81
  go_wp2
  go_loopg [3, 4] k (fun kq v3 v4 w' => ∃ (x3_1 : List Int) (x4_1 : Int), v4 = .int .i64 x4_1 ∧ Aside0 (rows_row_steps.l0 kq l0 x3_1 x4_1 = some r) ∧ Aside0 (kq ≤ k) ∧ Aside0 (Kd.R (Kd.int .i64) 3 w' w.heap.size (fun _ => True) v3 x3_1) ∧ Aside0 (Below w.heap.size w w'))
  case atStart => exact ⟨(([] : List Int)), (1), (by first | rfl | (simp; done) | (simp [*]; done)), H', ⟨Nat.le_refl _⟩, ⟨by first | exact Kd.R_nil _ _ _ _ _ | exact Kd.N_nil _ _ _ _ _ | exact Kd.V_nil _ _ _ _ _ | exact Kd.Q_nil _ _ _ _ _ | exact Kd.S_nil _ _ _ _ _⟩, ⟨by repeat (first | (with_reducible first | exact HB.out | apply below_alloc | apply pw_below_drewN | apply below_drew1) | exact HB.out)⟩⟩
  case round =>
    clear H'
    obtain ⟨x3_1, x4_1, rfl, HA, HK1, HO_3, HB⟩ := hrel
    cases gk with
    | zero => exact absurd HA.out (by simp [rows_row_steps.l0])
    | succ k1 =>
      have H := HA.out
      clear HA
      simp only [rows_row_steps.l0] at H
      by_cases c2 : x4_1 < (l0.length : Int)
      · rw [if_pos c2] at H
        have c2b0 : decide (x4_1 < (l0.length : Int)) = true := decide_eq_true c2
        clear c2
        by_cases c3 : 0 ≤ x4_1
        · rw [if_pos c3] at H
          have c3b0 : decide (0 ≤ x4_1) = true := decide_eq_true c3
          clear c3
          obtain ⟨ji4, hji4⟩ : ∃ j_ : Int, (wrap64 (x4_1 - 1)) = j_ := ⟨_, rfl⟩
          replace H : (if 0 ≤ (ji4) then (if (ji4) < (l0.length : Int) then ((rows_mod.f (wrap64 ((rd l0 x4_1) - (rd l0 (ji4)))) (l0.length : Int)).bind fun t1003 => (if x3_1.length < 17592186044416 then (rows_row_steps.l0 k1 l0 (x3_1 ++ [t1003]) (wrap64 (x4_1 + 1))) else (none))) else (none)) else (none)) = some r := by first | (rw [hji4] at H; exact H) | (simp only [hji4] at H ⊢; exact H)
          have hji4w : (IntKind.i64.wrap (x4_1 - 1)) = ji4 := (i64_w _).trans hji4
          by_cases c5 : 0 ≤ (ji4)
          · rw [if_pos c5] at H
            have c5b0 : decide (0 ≤ (ji4)) = true := decide_eq_true c5
            clear c5
            by_cases c6 : (ji4) < (l0.length : Int)
            · rw [if_pos c6] at H
              have c6b0 : decide ((ji4) < (l0.length : Int)) = true := decide_eq_true c6
              clear c6
              replace H := Option.bind_eq_some_iff.mp H
              obtain ⟨t1003, A70, H⟩ := H
              replace H : (if x3_1.length < 17592186044416 then (rows_row_steps.l0 k1 l0 (x3_1 ++ [t1003]) (wrap64 (x4_1 + 1))) else (none)) = some r := H
              have A7 := Aside0.mk A70
              clear A70
              by_cases c8 : x3_1.length < 17592186044416
              · rw [if_pos c8] at H
                have LMc8 := Aside0.mk c8
                clear c8
                obtain ⟨y1004, hy1004⟩ : ∃ y_ : List Int, y_ = (x3_1 ++ [t1003]) := ⟨_, rfl⟩
                replace H : (rows_row_steps.l0 k1 l0 y1004 (wrap64 (x4_1 + 1))) = some r := by first | (rw [hy1004]; with_reducible exact H) | (have H2_ := (Option.bind_some _ _).symm.trans H; rw [hy1004]; with_reducible exact H2_) | (have H2_ := (Option.bind_some _ _).symm.trans H; with_reducible exact H2_) | with_reducible exact H | (rw [hy1004]; exact H) | exact H
                have Ny1004 := Aside0.mk hy1004
                clear hy1004
                have H' := Aside0.mk H
                clear H
                try go_wp2
                have n0_ := Aside0.mk (Kd.R_drew HO_3.out)
                have n1_ := Aside0.mk (below_drew1 HB.out)
                clear HO_3
                clear HB
                have HO_3 := n0_
                have HB := n1_
                clear n0_ n1_
                have p1001 : 0 ≤ (x4_1 : Int) := of_decide_eq_true (by first | (with_reducible assumption) | assumption)
                have q1001 : x4_1 < (l0.length : Int) := of_decide_eq_true (by first | (with_reducible assumption) | assumption)
                obtain ⟨ad1001, e1001, hx1001_0⟩ := Kd.at_int HR0.out x4_1 p1001 q1001
                have hw1001_0 := hx1001_0
                cases e1001
                replace hx1001_0 := (HB.out.cell (World.block_lt_of_cell? w _ hx1001_0)).trans hx1001_0
                replace p1001 := eq_true p1001
                replace q1001 := eq_true q1001
                have p1002 : 0 ≤ ((ji4) : Int) := of_decide_eq_true (by first | (with_reducible assumption) | assumption)
                have q1002 : (ji4) < (l0.length : Int) := of_decide_eq_true (by first | (with_reducible assumption) | assumption)
                obtain ⟨ad1002, e1002, hx1002_0⟩ := Kd.at_int HR0.out (ji4) p1002 q1002
                have hw1002_0 := hx1002_0
                obtain rfl : ad1001 = ad1002 := (by injection e1002)
                replace hx1002_0 := (HB.out.cell (World.block_lt_of_cell? w _ hx1002_0)).trans hx1002_0
                replace p1002 := eq_true p1002
                replace q1002 := eq_true q1002
                refine start_ (n := 17) (S := fun w' => w'.cell? (ad1001.add (x4_1).toNat) = some (.int .i64 (rd l0 x4_1)) ∧ w'.cell? (ad1001.add ((ji4)).toNat) = some (.int .i64 (rd l0 (ji4)))) (ds := []) #[false, false, false, false, false, false, false, false, false, false, false, false, false, false, false, false, false] (by kernel_rfl) rfl rfl ⟨((HB.out.cell (World.block_lt_of_cell? w _ hw1001_0)).trans hw1001_0), ((HB.out.cell (World.block_lt_of_cell? w _ hw1002_0)).trans hw1002_0)⟩ (fun hHeld => ?_); refine with_tabW rows_row_steps.tab5 rows_row_steps.bits5 (fun HT_ HW_ => ?_)
                generalize wr.drew = w9 at HO_3 HB hx1001_0 hx1002_0 hHeld ⊢
                refine pure_ (i := 0) (N := some 11) (v := ?_) (a' := ?_) #[true, false, false, false, false, false, false, false, false, false, false, false, false, false, false, false, false] rfl rfl (any_of HT_.out (by kernel_rfl)) (fun _ _ _ h => h) (Or.inl ⟨by rfl, ?_⟩) ?_ ?_
                rotate_left
                · intro w'
                  go_simp
                  with_reducible rfl
                rotate_left
                · simp only [Act.put, List.setIfInBounds_toArray, List.set_cons_zero, List.set_cons_succ, i64_w, i32_w]
                  rfl
                refine pure_ (i := 1) (N := some 12) (v := ?_) (a' := ?_) #[true, true, false, false, false, false, false, false, false, false, false, false, false, false, false, false, false] rfl rfl (any_of HT_.out (by kernel_rfl)) (fun _ _ _ h => h) (Or.inl ⟨by rfl, ?_⟩) ?_ ?_
                rotate_left
                · intro w'
                  go_simp
                  with_reducible rfl
                rotate_left
                · simp only [Act.put, List.setIfInBounds_toArray, List.set_cons_zero, List.set_cons_succ, i64_w, i32_w]
                  rfl
                refine pure_ (i := 2) (N := some 13) (v := ?_) (a' := ?_) #[true, true, true, false, false, false, false, false, false, false, false, false, false, false, false, false, false] rfl rfl (any_of HT_.out (by kernel_rfl)) (fun _ _ _ h => h) (Or.inl ⟨by rfl, ?_⟩) ?_ ?_
                rotate_left
                · intro w'
                  go_simp
                  with_reducible rfl
                rotate_left
                · simp only [Act.put, List.setIfInBounds_toArray, List.set_cons_zero, List.set_cons_succ, i64_w, i32_w]
                  rfl
                refine pure_ (i := 3) (N := some 14) (v := ?_) (a' := ?_) #[true, true, true, true, false, false, false, false, false, false, false, false, false, false, false, false, false] rfl rfl (any_of HT_.out (by kernel_rfl)) (fun _ _ _ h => h) (Or.inl ⟨by rfl, ?_⟩) ?_ ?_
                rotate_left
                · intro w'
                  go_simp
                  with_reducible rfl
                rotate_left
                · simp only [Act.put, List.setIfInBounds_toArray, List.set_cons_zero, List.set_cons_succ, i64_w, i32_w]
                  rfl
                refine pure_ (i := 5) (N := some 16) (v := ?_) (a' := ?_) #[true, true, true, true, false, true, false, false, false, false, false, false, false, false, false, false, false] rfl rfl (any_of HT_.out (by kernel_rfl)) (fun _ _ _ h => h) (Or.inl ⟨by rfl, ?_⟩) ?_ ?_
                rotate_left
                · intro w'
                  go_simp
                  with_reducible rfl
                rotate_left
                · simp only [Act.put, List.setIfInBounds_toArray, List.set_cons_zero, List.set_cons_succ, i64_w, i32_w]
                  rfl
                refine pure_ (i := 6) (N := some 17) (v := ?_) (a' := ?_) #[true, true, true, true, false, true, true, false, false, false, false, false, false, false, false, false, false] rfl rfl (any_of HT_.out (by kernel_rfl)) (fun _ _ _ h => h) (Or.inl ⟨by rfl, ?_⟩) ?_ ?_
                rotate_left
                · intro w'
                  go_simp
                  with_reducible rfl
                rotate_left
                · simp only [Act.put, List.setIfInBounds_toArray, List.set_cons_zero, List.set_cons_succ, i64_w, i32_w]
                  rfl
                refine pure_ (i := 7) (N := some 18) (v := ?_) (a' := ?_) #[true, true, true, true, false, true, true, true, false, false, false, false, false, false, false, false, false] rfl rfl (any_of HT_.out (by kernel_rfl)) (fun _ _ _ h => h) (Or.inl ⟨by rfl, ?_⟩) ?_ ?_
                rotate_left
                · intro w'
                  go_simp
                  with_reducible rfl
                rotate_left
                · simp only [Act.put, List.setIfInBounds_toArray, List.set_cons_zero, List.set_cons_succ, i64_w, i32_w]
                  rfl
                refine pure_ (i := 8) (N := some 19) (v := ?_) (a' := ?_) #[true, true, true, true, false, true, true, true, true, false, false, false, false, false, false, false, false] rfl rfl (any_of HT_.out (by kernel_rfl)) (fun _ _ _ h => h) (Or.inl ⟨by rfl, ?_⟩) ?_ ?_
                rotate_left
                · intro w'
                  go_simp
                  with_reducible rfl
                rotate_left
                · simp only [Act.put, List.setIfInBounds_toArray, List.set_cons_zero, List.set_cons_succ, i64_w, i32_w]
                  rfl
                refine pure_ (i := 11) (N := some 22) (v := ?_) (a' := ?_) #[true, true, true, true, false, true, true, true, true, false, false, true, false, false, false, false, false] rfl rfl (any_of HT_.out (by kernel_rfl)) (fun _ _ _ h => h) (Or.inl ⟨by rfl, ?_⟩) ?_ ?_
                rotate_left
                · intro w'
                  go_simp
                  with_reducible rfl
                rotate_left
                · simp only [Act.put, List.setIfInBounds_toArray, List.set_cons_zero, List.set_cons_succ, i64_w, i32_w]
                  rfl
                refine pure_ (i := 12) (N := some 23) (v := ?_) (a' := ?_) #[true, true, true, true, false, true, true, true, true, false, false, true, true, false, false, false, false] rfl rfl (any_of HT_.out (by kernel_rfl)) (fun _ _ _ h => h) (Or.inl ⟨by rfl, ?_⟩) ?_ ?_
                rotate_left
                · intro w'
                  go_simp
                  with_reducible rfl
                rotate_left
                · simp only [Act.put, List.setIfInBounds_toArray, List.set_cons_zero, List.set_cons_succ, i64_w, i32_w]
                  rfl
                refine take_ (i := 4) (N := some 15) (v := ?_) (a' := ?_) #[true, true, true, true, true, true, true, true, true, false, false, true, true, false, false, false, false] rfl rfl (take_ofW HT_.out HW_.out (by kernel_rfl)) (fun _ _ _ h => h) (Or.inl ⟨by rfl, ?_⟩) hHeld ?_ ?_
                rotate_left
                · rintro w' ⟨s0, s1⟩
                  go_simp
                  with_reducible rfl
                rotate_left
                · simp only [Act.put, List.setIfInBounds_toArray, List.set_cons_zero, List.set_cons_succ, i64_w, i32_w]
                  rfl
                refine take_ (i := 9) (N := some 20) (v := ?_) (a' := ?_) #[true, true, true, true, true, true, true, true, true, true, false, true, true, false, false, false, false] rfl rfl (take_ofW HT_.out HW_.out (by kernel_rfl)) (fun _ _ _ h => h) (Or.inl ⟨by rfl, ?_⟩) hHeld ?_ ?_
                rotate_left
                · rintro w' ⟨s0, s1⟩
                  go_simp
                  with_reducible rfl
                rotate_left
                · simp only [Act.put, List.setIfInBounds_toArray, List.set_cons_zero, List.set_cons_succ, i64_w, i32_w]
                  rfl
                refine pure_ (i := 10) (N := some 21) (v := ?_) (a' := ?_) #[true, true, true, true, true, true, true, true, true, true, true, true, true, false, false, false, false] rfl rfl (any_of HT_.out (by kernel_rfl)) (fun _ _ _ h => h) (Or.inl ⟨by rfl, ?_⟩) ?_ ?_
                rotate_left
                · intro w'
                  go_simp
                  with_reducible rfl
                rotate_left
                · simp only [Act.put, List.setIfInBounds_toArray, List.set_cons_zero, List.set_cons_succ, i64_w, i32_w]
                  rfl
                refine one_ (i := 13) (N := some 24) #[true, true, true, true, true, true, true, true, true, true, true, true, true, true, false, false, false] rfl rfl (one_of HT_.out (by kernel_rfl)) (by decide) (fun K hK => ?_)
                refine goes_ Tryd.func115 (by kernel_rfl) rfl #[.int .i64 (wrap64 ((rd l0 x4_1) - (rd l0 (ji4)))), .int .i64 (l0.length : Int)] (by rfl) rfl rfl (by (try simp only [List.map_toArray, List.map_cons, List.map_nil]); first | done | (simp only [hji4]; rfl) | rfl | (simp only [List.length_drop, List.length_take]; rfl)) ?_
                with_reducible refine (rows_mod.calls (wrap64 ((rd l0 x4_1) - (rd l0 (ji4)))) (l0.length : Int) t1003 _ A7.out).mono ?_
                rintro e w' ⟨rfl, ⟨nd, rfl⟩⟩
                refine ⟨_, rfl, ?_⟩
                refine hK.out _ _ ⟨((HB.out.cell (World.block_lt_of_cell? w _ hw1001_0)).trans hw1001_0), ((HB.out.cell (World.block_lt_of_cell? w _ hw1002_0)).trans hw1002_0)⟩ (fun hHeld => ?_)
                clear hK K
                refine norm_ (a' := ?_) ?_ ?_
                rotate_left
                · show Act.put _ (some 24) _ = _
                  simp only [Act.put, List.setIfInBounds_toArray, List.set_cons_zero, List.set_cons_succ, i64_w, i32_w]
                  rfl
                refine one_ (i := 14) (N := some 25) #[true, true, true, true, true, true, true, true, true, true, true, true, true, true, true, false, false] rfl rfl (one_of HT_.out (by kernel_rfl)) (by decide) (fun K hK => ?_)
                refine value_ (w1 := ?_) (v := ?_) (by rfl) rfl ?_ ?_
                rotate_left 2
                · go_simp
                  constructor
                  · rfl
                  · rfl
                refine hK.out _ _ ⟨(World.cell?_alloc_lt _ _ _ (World.block_lt_of_cell? _ _ (((HB.out.cell (World.block_lt_of_cell? w _ hw1001_0)).trans hw1001_0)))).trans (((HB.out.cell (World.block_lt_of_cell? w _ hw1001_0)).trans hw1001_0)), (World.cell?_alloc_lt _ _ _ (World.block_lt_of_cell? _ _ (((HB.out.cell (World.block_lt_of_cell? w _ hw1002_0)).trans hw1002_0)))).trans (((HB.out.cell (World.block_lt_of_cell? w _ hw1002_0)).trans hw1002_0))⟩ (fun hHeld => ?_)
                clear hK K
                refine norm_ (a' := ?_) ?_ ?_
                rotate_left
                · show Act.put _ (some 25) _ = _
                  simp only [Act.put, List.setIfInBounds_toArray, List.set_cons_zero, List.set_cons_succ, i64_w, i32_w]
                  rfl
                refine one_ (i := 15) (N := some 26) #[true, true, true, true, true, true, true, true, true, true, true, true, true, true, true, true, false] rfl rfl (one_of HT_.out (by kernel_rfl)) (by decide) (fun K hK => ?_)
                refine Kd.R_append_step (Kd.int .i64) (w0 := w) w.heap.size (by rfl) (.tmp 11) (.tmp 25) 22 3 (.int .i64 0) 8 rfl Tryd.underlying22 info3 rfl (by decide) (by omega) u3 x3_1 t1003 [.int .i64 t1003] (fun _ => True) (fun _ => False) rfl rfl ?aP (fun _ hk => hk.elim) ?aF ?aO ?aB ?aS ?aL ?_
                (case aP => exact rfl)
                (case aB => exact (by repeat (first | (with_reducible first | exact HB.out | apply below_alloc | apply pw_below_drewN | apply below_drew1) | exact HB.out)))
                (case aF => exact (fun _ _ => trivial))
                (case aO => exact (by (with_reducible repeat (first | apply Kd.R_alloc | apply Kd.R_drewN | apply Kd.R_drew)); exact HO_3.out))
                (case aS => exact (below_size (by repeat (first | (with_reducible first | exact HB.out | apply below_alloc | apply pw_below_drewN | apply below_drew1) | exact HB.out))))
                (case aL => have := LMc8.out; omega)
                intro v1005 w10 ho hb hg hat
                rw [← Ny1004.out] at ho
                have n0_ := Aside0.mk (hb)
                have n1_ := Aside0.mk (ho)
                clear HB
                clear HO_3
                have HB := n0_
                have HO1006 := n1_
                clear n0_ n1_
                clear ho hb hg hat
                refine hK.out _ _ ⟨((HB.out.cell (World.block_lt_of_cell? w _ hw1001_0)).trans hw1001_0), ((HB.out.cell (World.block_lt_of_cell? w _ hw1002_0)).trans hw1002_0)⟩ (fun hHeld => ?_)
                clear hK K
                refine norm_ (a' := ?_) ?_ ?_
                rotate_left
                · show Act.put _ (some 26) _ = _
                  simp only [Act.put, List.setIfInBounds_toArray, List.set_cons_zero, List.set_cons_succ, i64_w, i32_w]
                  rfl
                refine pure_ (i := 16) (N := some 3) (v := ?_) (a' := ?_) #[true, true, true, true, true, true, true, true, true, true, true, true, true, true, true, true, true] rfl rfl (any_of HT_.out (by kernel_rfl)) (fun _ _ _ h => h) (Or.inl ⟨by rfl, ?_⟩) ?_ ?_
                rotate_left
                · intro w'
                  go_simp
                  with_reducible rfl
                rotate_left
                · simp only [Act.put, List.setIfInBounds_toArray, List.set_cons_zero, List.set_cons_succ, i64_w, i32_w]
                  rfl
                refine done_ (done_of HT_.out (by kernel_rfl)) ?_
                try go_wp2
                go_roundg k1
                case measure => have := HK1.out; omega
                case rel => exact ⟨(y1004), (wrap64 (x4_1 + 1)), (by first | rfl | (simp; done) | (simp [*]; done)), H', ⟨by have := HK1.out; omega⟩, ⟨by (with_reducible repeat (first | apply Kd.R_alloc | apply Kd.R_drewN | apply Kd.R_drew)); exact HO1006.out⟩, ⟨by repeat (first | (with_reducible first | exact HB.out | apply below_alloc | apply pw_below_drewN | apply below_drew1) | exact HB.out)⟩⟩
              · rw [if_neg c8] at H
                exact absurd H (by simp)
            · rw [if_neg c6] at H
              exact absurd H (by simp)
          · rw [if_neg c5] at H
            exact absurd H (by simp)
        · rw [if_neg c3] at H
          exact absurd H (by simp)
      · rw [if_neg c2] at H
        have c2b0 : decide (x4_1 < (l0.length : Int)) = false := decide_eq_false c2
        clear c2
        obtain rfl := Option.some.inj H
        go_wp2
        go_ret
        exact ⟨_, by first | rfl | (simp [errW_none, errW_some] <;> rfl) | (simp [*, errW_none, errW_some] <;> rfl), by (with_reducible repeat (first | apply Kd.R_alloc | apply Kd.R_drewN | apply Kd.R_drew)); exact HO_3.out, by repeat (first | (with_reducible first | exact HB.out | apply below_alloc | apply pw_below_drewN | apply below_drew1) | exact HB.out)⟩

end Go.Proofs.YtfpnojcbhbkfaaaDoor.P
namespace Go.Proofs.YtfpnojcbhbkfaaaDoor.P
open Go.RowKit Go.Proofs.YtfpnojcbhbkfaaaDoorW.PrintWords Go.Proofs.YtfpnojcbhbkfaaaDoorW.PrintLast Go.Proofs.YtfpnojcbhbkfaaaDoorW.PrintMore
attribute [local go_sem] max2_int min2_int max_two min_two max_three min_three max_four min_four   -- for this text's walks alone
set_option linter.unusedVariables false
set_option linter.unusedSimpArgs false

/-! ### rows_Steps: function 48 -/
def rows_Steps.f (k : Nat) (l0 : List Int) : Option (List Int × Int) := (rows_row_valid.f k l0).bind fun t1001 => (if t1001 = true then ((rows_row_steps.f k l0).bind fun t1002 => (some (t1002, 0))) else (some (([] : List Int), 2)))
theorem rows_Steps.mono : ∀ a0 k, LeO (rows_Steps.f k a0) (rows_Steps.f (k + 1) a0) := by
  intro a0 k
  unfold rows_Steps.f
  repeat' first
      | (with_reducible exact rows_row_steps.mono _ _)
      | (with_reducible exact rows_row_valid.mono _ _)
      | (with_reducible exact LeO.refl _)
      | (with_reducible exact LeO.none _)
      | (with_reducible refine LeO.ite ?_ ?_)
      | (with_reducible refine LeO.bind ?_ (fun _ => ?_))
      | exact rows_row_steps.mono _ _
      | exact rows_row_valid.mono _ _
      | exact LeO.none _
      | refine LeO.ite ?_ ?_
      | refine LeO.bind ?_ (fun _ => ?_)
set_option maxHeartbeats 8000000 in
set_option maxRecDepth 100000 in
theorem rows_Steps.calls (k : Nat) (A0 : Option Addr) (c0 : Nat) (l0 : List Int) (r1 : List Int) (r2 : Int) (w : World) (hr0 : Kd.C (Kd.int .i64) w A0 l0.length l0) (hc0 : l0.length ≤ c0) (h : rows_Steps.f k l0 = some (r1, r2)) :
    Calls Tryd.prog 48 #[.slice A0 l0.length c0] w fun e w' => ∃ v0_ : Value, e = .returned (.tuple #[v0_, .int .i64 r2]) ∧ Kd.R (Kd.int .i64) 3 w' w.heap.size (fun _ => True) v0_ r1 ∧ Below w.heap.size w w' := by
  have HR0 := Aside0.mk hr0
  have HC0 := Aside0.mk hc0
  clear hr0 hc0
  have HB := Aside0.mk (Below.refl w.heap.size w)
  have H : ((rows_row_valid.f k l0).bind fun t1001 => (if t1001 = true then ((rows_row_steps.f k l0).bind fun t1002 => (some (t1002, 0))) else (some (([] : List Int), 2)))) = some (r1, r2) := h
  clear h
  replace H := Option.bind_eq_some_iff.mp H
  obtain ⟨t1001, A20, H⟩ := H
  replace H : (if t1001 = true then ((rows_row_steps.f k l0).bind fun t1002 => (some (t1002, 0))) else (some (([] : List Int), 2))) = some (r1, r2) := H
  have A2 := Aside0.mk A20
  clear A20
  by_cases c3 : t1001 = true
  · subst c3
    have H1 : ((rows_row_steps.f k l0).bind fun t1002 => (some (t1002, 0))) = some (r1, r2) := by rw [if_pos rfl] at H; exact H
    clear H
    have H := H1
    clear H1
    replace H := Option.bind_eq_some_iff.mp H
    obtain ⟨t1002, A40, H⟩ := H
    replace H : (some (t1002, 0)) = some (r1, r2) := H
    have A4 := Aside0.mk A40
    clear A40
    simp only [Option.some.injEq, Prod.mk.injEq] at H
    obtain ⟨rfl, rfl⟩ := H
    go_enter Tryd.func48, Tryd.ntmps48
    go_wp2_with (first | ((with_reducible refine gate_callee (f := 44) rfl ?_); refine goesL_ (some 5) rfl rfl Tryd.func44 (by kernel_rfl) rfl #[.slice A0 l0.length c0] rfl (by (try simp only [List.map_toArray, List.map_cons, List.map_nil]); first | done | rfl | (simp only [List.length_drop, List.length_take]; rfl)) ?_; (with_reducible refine (rows_row_valid.calls k _ _ l0 true _ ?side1 ?side2 A2.out).mono ?_); (case side1 => repeat (first | exact HR0.out | (with_reducible refine Kd.C_alloc ?_ _) | (with_reducible refine Kd.C_drewN ?_ _) | (with_reducible refine Kd.C_drew ?_))); (case side2 => exact HC0.out); rintro e w' ⟨rfl, ⟨nd, rfl⟩⟩; refine ⟨_, rfl, ?_⟩) | ((with_reducible refine gate_callee (f := 81) rfl ?_); refine goesL_ (some 8) rfl rfl Tryd.func81 (by kernel_rfl) rfl #[.slice A0 l0.length c0] rfl (by (try simp only [List.map_toArray, List.map_cons, List.map_nil]); first | done | rfl | (simp only [List.length_drop, List.length_take]; rfl)) ?_; (with_reducible refine (rows_row_steps.calls k _ _ l0 t1002 _ ?side1 ?side2 A4.out).mono ?_); (case side1 => repeat (first | exact HR0.out | (with_reducible refine Kd.C_alloc ?_ _) | (with_reducible refine Kd.C_drewN ?_ _) | (with_reducible refine Kd.C_drew ?_))); (case side2 => exact HC0.out); rintro e w5 ⟨v1003, rfl, ho0, hb⟩; refine ⟨_, rfl, ?_⟩; have n0_ := Aside0.mk (Kd.R_lower ho0 (below_size (by repeat (first | (with_reducible first | exact HB.out | apply below_alloc | apply pw_below_drewN | apply below_drew1) | exact HB.out)))); have n1_ := Aside0.mk (below_step (by repeat (first | (with_reducible first | exact HB.out | apply below_alloc | apply pw_below_drewN | apply below_drew1) | exact HB.out)) hb); clear HB; have HO1004 := n0_; have HB := n1_; clear n0_ n1_; (try clear hb); (try clear hb2); (try clear hk); (try clear hi); (try clear ho0)))
    go_ret2
    exact ⟨_, by first | rfl | (simp [errW_none, errW_some] <;> rfl) | (simp [*, errW_none, errW_some] <;> rfl), by (with_reducible repeat (first | apply Kd.R_alloc | apply Kd.R_drewN | apply Kd.R_drew)); exact HO1004.out, by repeat (first | (with_reducible first | exact HB.out | apply below_alloc | apply pw_below_drewN | apply below_drew1) | exact HB.out)⟩
  · replace c3 := Bool.eq_false_iff.mpr c3
    subst c3
    have H1 : (some (([] : List Int), 2)) = some (r1, r2) := by rw [if_neg (show ¬ (false = true) by decide)] at H; exact H
    clear H
    have H := H1
    clear H1
    simp only [Option.some.injEq, Prod.mk.injEq] at H
    obtain ⟨rfl, rfl⟩ := H
    go_enter Tryd.func48, Tryd.ntmps48
    go_wp2_with (first | ((with_reducible refine gate_callee (f := 44) rfl ?_); refine goesL_ (some 5) rfl rfl Tryd.func44 (by kernel_rfl) rfl #[.slice A0 l0.length c0] rfl (by (try simp only [List.map_toArray, List.map_cons, List.map_nil]); first | done | rfl | (simp only [List.length_drop, List.length_take]; rfl)) ?_; (with_reducible refine (rows_row_valid.calls k _ _ l0 false _ ?side1 ?side2 A2.out).mono ?_); (case side1 => repeat (first | exact HR0.out | (with_reducible refine Kd.C_alloc ?_ _) | (with_reducible refine Kd.C_drewN ?_ _) | (with_reducible refine Kd.C_drew ?_))); (case side2 => exact HC0.out); rintro e w' ⟨rfl, ⟨nd, rfl⟩⟩; refine ⟨_, rfl, ?_⟩))
    go_ret2
    exact ⟨_, by first | rfl | (simp [errW_none, errW_some] <;> rfl) | (simp [*, errW_none, errW_some] <;> rfl), by first | exact Kd.R_nil _ _ _ _ _ | exact Kd.N_nil _ _ _ _ _ | exact Kd.V_nil _ _ _ _ _ | exact Kd.Q_nil _ _ _ _ _ | exact Kd.S_nil _ _ _ _ _, by repeat (first | (with_reducible first | exact HB.out | apply below_alloc | apply pw_below_drewN | apply below_drew1) | exact HB.out)⟩

end Go.Proofs.YtfpnojcbhbkfaaaDoor.P
namespace Go.Proofs.YtfpnojcbhbkfaaaDoor.P
open Go.RowKit Go.Proofs.YtfpnojcbhbkfaaaDoorW.PrintWords Go.Proofs.YtfpnojcbhbkfaaaDoorW.PrintLast Go.Proofs.YtfpnojcbhbkfaaaDoorW.PrintMore
attribute [local go_sem] max2_int min2_int max_two min_two max_three min_three max_four min_four   -- for this text's walks alone
set_option linter.unusedVariables false
set_option linter.unusedSimpArgs false

/-! ### sackbuttop_rowed: function 11 -/
def sackbuttop_rowed.f (k : Nat)  : Option (Bool) := (rows_Steps.f k (([0, 1, 3, 2] : List Int))).bind fun bt1004 => (if bt1004.2 = 0 then ((slices_Equal_int_int.f k bt1004.1 (([1, 2, 3] : List Int))).bind fun t1011 => (some t1011)) else (some false))
theorem sackbuttop_rowed.mono : ∀ k, LeO (sackbuttop_rowed.f k ) (sackbuttop_rowed.f (k + 1) ) := by
  intro  k
  unfold sackbuttop_rowed.f
  repeat' first
      | (with_reducible exact rows_Steps.mono _ _)
      | (with_reducible exact slices_Equal_int_int.mono _ _ _)
      | (with_reducible exact LeO.refl _)
      | (with_reducible exact LeO.none _)
      | (with_reducible refine LeO.ite ?_ ?_)
      | (with_reducible refine LeO.bind ?_ (fun _ => ?_))
      | exact rows_Steps.mono _ _
      | exact slices_Equal_int_int.mono _ _ _
      | exact LeO.none _
      | refine LeO.ite ?_ ?_
      | refine LeO.bind ?_ (fun _ => ?_)
set_option maxHeartbeats 8000000 in
set_option maxRecDepth 100000 in
theorem sackbuttop_rowed.calls (k : Nat)  (r : Bool) (w : World) (h : sackbuttop_rowed.f k  = some r) :
    Calls Tryd.prog 11 #[] w fun e w' => e = .returned (.bool r) ∧ Below w.heap.size w w' := by
  have HB := Aside0.mk (Below.refl w.heap.size w)
  have H : ((rows_Steps.f k (([0, 1, 3, 2] : List Int))).bind fun bt1004 => (if bt1004.2 = 0 then ((slices_Equal_int_int.f k bt1004.1 (([1, 2, 3] : List Int))).bind fun t1011 => (some t1011)) else (some false))) = some r := h
  clear h
  obtain ⟨y1001, hy1001⟩ : ∃ y_ : List Int, y_ = (([0, 1, 3, 2] : List Int)) := ⟨_, rfl⟩
  replace H : ((rows_Steps.f k y1001).bind fun bt1004 => (if bt1004.2 = 0 then ((slices_Equal_int_int.f k bt1004.1 (([1, 2, 3] : List Int))).bind fun t1011 => (some t1011)) else (some false))) = some r := by first | (rw [hy1001]; with_reducible exact H) | (have H2_ := (Option.bind_some _ _).symm.trans H; rw [hy1001]; with_reducible exact H2_) | (have H2_ := (Option.bind_some _ _).symm.trans H; with_reducible exact H2_) | with_reducible exact H | (rw [hy1001]; exact H) | exact H
  have Ny1001 := Aside0.mk hy1001
  clear hy1001
  replace H := Option.bind_eq_some_iff.mp H
  obtain ⟨⟨t1004, t1005⟩, A10, H⟩ := H
  replace H : (if t1005 = 0 then ((slices_Equal_int_int.f k t1004 (([1, 2, 3] : List Int))).bind fun t1011 => (some t1011)) else (some false)) = some r := H
  have A1 := Aside0.mk A10
  clear A10
  by_cases c2 : t1005 = 0
  · rw [if_pos c2] at H
    have c2b0 : (t1005 == 0) = true := beq_iff_eq.mpr c2
    have c2b1 : (t1005 != 0) = false := bne_eq_false_iff_eq.mpr c2
    clear c2
    obtain ⟨y1008, hy1008⟩ : ∃ y_ : List Int, y_ = (([1, 2, 3] : List Int)) := ⟨_, rfl⟩
    replace H : ((slices_Equal_int_int.f k t1004 y1008).bind fun t1011 => (some t1011)) = some r := by first | (rw [hy1008]; with_reducible exact H) | (have H2_ := (Option.bind_some _ _).symm.trans H; rw [hy1008]; with_reducible exact H2_) | (have H2_ := (Option.bind_some _ _).symm.trans H; with_reducible exact H2_) | with_reducible exact H | (rw [hy1008]; exact H) | exact H
    have Ny1008 := Aside0.mk hy1008
    clear hy1008
    replace H := Option.bind_eq_some_iff.mp H
    obtain ⟨t1011, A30, H⟩ := H
    replace H : (some t1011) = some r := H
    have A3 := Aside0.mk A30
    clear A30
    obtain rfl := Option.some.inj H
    go_enter Tryd.func11, Tryd.ntmps11
    go_wp2_with (first | ((with_reducible refine gate_dst (N := 4) rfl ?_); (try (refine gate_guard (by rfl) ?_; dsimp only)); refine Kd.R_lit (Kd.int .i64) _ 3 ?hg (N := 4) ?hd (xs := ([0, 1, 3, 2] : List Int)) (inner := [.int .i64 0, .int .i64 1, .int .i64 3, .int .i64 2]) (ok := fun _ => True) (okp := fun _ => True) ?hr ?hp (fun _ hk => hk) trivial (Below.refl _ _) (Nat.le_refl _) (by simp) ?_; (case hd => rfl); (case hg => rfl); (case hr => first | (go_simp; done) | (go_simp; rfl)); (case hp => exact (Reps.one (show Kd.M (Kd.int .i64) _ _ _ 0 [.int .i64 0] from rfl) (Reps.one (show Kd.M (Kd.int .i64) _ _ _ 1 [.int .i64 1] from rfl) (Reps.one (show Kd.M (Kd.int .i64) _ _ _ 3 [.int .i64 3] from rfl) (Reps.one (show Kd.M (Kd.int .i64) _ _ _ 2 [.int .i64 2] from rfl) (Reps.none _ _)))))); intro v1002 w4 ho5 hb hg_ hnew_; clear hg_ hnew_; (first | rw [← Ny1001.out] at ho5 | (simp only [Int.reduceToNat] at ho5; rw [← Ny1001.out] at ho5)); have n0_ := Aside0.mk (Kd.R_lower ho5 (below_size (by repeat (first | (with_reducible first | exact HB.out | apply below_alloc | apply pw_below_drewN | apply below_drew1) | exact HB.out)))); have n1_ := Aside0.mk (below_step (by repeat (first | (with_reducible first | exact HB.out | apply below_alloc | apply pw_below_drewN | apply below_drew1) | exact HB.out)) hb); clear HB; have HO1003 := n0_; have HB := n1_; clear n0_ n1_; clear hb ho5; obtain ⟨Ao6, co6, eo6⟩ := Kd.R_slice HO1003.out; subst eo6) | ((with_reducible refine gate_callee (f := 48) rfl ?_); refine goesL_ (some 5) rfl rfl Tryd.func48 (by kernel_rfl) rfl #[.slice Ao6 y1001.length co6] rfl (by (try simp only [List.map_toArray, List.map_cons, List.map_nil]); first | done | rfl | (simp only [List.length_drop, List.length_take]; rfl)) ?_; (with_reducible refine (rows_Steps.calls k _ _ y1001 t1004 t1005 _ ?side1 ?side2 A1.out).mono ?_); (case side1 => repeat (first | exact (Kd.R_reads' HO1003.out).2.2 | (with_reducible refine Kd.C_alloc ?_ _) | (with_reducible refine Kd.C_drewN ?_ _) | (with_reducible refine Kd.C_drew ?_))); (case side2 => exact (Kd.R_reads' HO1003.out).2.1); rintro e w7 ⟨v1006, rfl, ho0, hb⟩; refine ⟨_, rfl, ?_⟩; have n0_ := Aside0.mk (Kd.R_elder' (by (with_reducible repeat (first | apply Kd.R_alloc | apply Kd.R_drewN | apply Kd.R_drew)); exact HO1003.out) (Kd.R_base ho0) hb); have n1_ := Aside0.mk (Kd.R_lower (Kd.R_new' ho0 (Kd.R_lt (by (with_reducible repeat (first | apply Kd.R_alloc | apply Kd.R_drewN | apply Kd.R_drew)); exact HO1003.out))) (below_size (by repeat (first | (with_reducible first | exact HB.out | apply below_alloc | apply pw_below_drewN | apply below_drew1) | exact HB.out)))); have n2_ := Aside0.mk (below_step (by repeat (first | (with_reducible first | exact HB.out | apply below_alloc | apply pw_below_drewN | apply below_drew1) | exact HB.out)) hb); clear HO1003; clear HB; have HO1003 := n0_; have HO1007 := n1_; have HB := n2_; clear n0_ n1_ n2_; (try clear hb); (try clear hb2); (try clear hk); (try clear hi); (try clear ho0)) | ((with_reducible refine gate_dst (N := 12) rfl ?_); (try (refine gate_guard (by rfl) ?_; dsimp only)); refine Kd.R_lit (Kd.int .i64) _ 3 ?hg (N := 12) ?hd (xs := ([1, 2, 3] : List Int)) (inner := [.int .i64 1, .int .i64 2, .int .i64 3]) (ok := fun _ => True) (okp := fun _ => True) ?hr ?hp (fun _ hk => hk) trivial (Below.refl _ _) (Nat.le_refl _) (by simp) ?_; (case hd => rfl); (case hg => rfl); (case hr => first | (go_simp; done) | (go_simp; rfl)); (case hp => exact (Reps.one (show Kd.M (Kd.int .i64) _ _ _ 1 [.int .i64 1] from rfl) (Reps.one (show Kd.M (Kd.int .i64) _ _ _ 2 [.int .i64 2] from rfl) (Reps.one (show Kd.M (Kd.int .i64) _ _ _ 3 [.int .i64 3] from rfl) (Reps.none _ _))))); intro v1009 w8 ho9 hb hg_ hnew_; clear hg_ hnew_; (first | rw [← Ny1008.out] at ho9 | (simp only [Int.reduceToNat] at ho9; rw [← Ny1008.out] at ho9)); have n0_ := Aside0.mk (Kd.R_elder' (by (with_reducible repeat (first | apply Kd.R_alloc | apply Kd.R_drewN | apply Kd.R_drew)); exact HO1003.out) (Kd.R_base ho9) hb); have n1_ := Aside0.mk (Kd.R_elder' (by (with_reducible repeat (first | apply Kd.R_alloc | apply Kd.R_drewN | apply Kd.R_drew)); exact HO1007.out) (Kd.R_base ho9) hb); have n2_ := Aside0.mk (Kd.R_lower (Kd.R_new' (Kd.R_new' ho9 (Kd.R_lt (by (with_reducible repeat (first | apply Kd.R_alloc | apply Kd.R_drewN | apply Kd.R_drew)); exact HO1003.out))) (Kd.R_lt (by (with_reducible repeat (first | apply Kd.R_alloc | apply Kd.R_drewN | apply Kd.R_drew)); exact HO1007.out))) (below_size (by repeat (first | (with_reducible first | exact HB.out | apply below_alloc | apply pw_below_drewN | apply below_drew1) | exact HB.out)))); have n3_ := Aside0.mk (below_step (by repeat (first | (with_reducible first | exact HB.out | apply below_alloc | apply pw_below_drewN | apply below_drew1) | exact HB.out)) hb); clear HO1003; clear HO1007; clear HB; have HO1003 := n0_; have HO1007 := n1_; have HO1010 := n2_; have HB := n3_; clear n0_ n1_ n2_ n3_; clear hb ho9; obtain ⟨Ao10, co10, eo10⟩ := Kd.R_slice HO1007.out; subst eo10; obtain ⟨Ao11, co11, eo11⟩ := Kd.R_slice HO1010.out; subst eo11) | (go_at_call 13; (with_reducible refine (slices_Equal_int_int.calls k _ _ t1004 _ _ y1008 t1011 _ ?side1 ?side2 ?side3 ?side4 A3.out).mono ?_); (case side1 => repeat (first | exact (Kd.R_reads' HO1007.out).2.2 | (with_reducible refine Kd.C_alloc ?_ _) | (with_reducible refine Kd.C_drewN ?_ _) | (with_reducible refine Kd.C_drew ?_))); (case side2 => exact (Kd.R_reads' HO1007.out).2.1); (case side3 => repeat (first | exact (Kd.R_reads' HO1010.out).2.2 | (with_reducible refine Kd.C_alloc ?_ _) | (with_reducible refine Kd.C_drewN ?_ _) | (with_reducible refine Kd.C_drew ?_))); (case side4 => exact (Kd.R_reads' HO1010.out).2.1); rintro e w' ⟨rfl, ⟨nd, rfl⟩⟩))
    go_ret
    exact ⟨by first | rfl | (simp [errW_none, errW_some] <;> rfl) | (simp [*, errW_none, errW_some] <;> rfl), by repeat (first | (with_reducible first | exact HB.out | apply below_alloc | apply pw_below_drewN | apply below_drew1) | exact HB.out)⟩
  · rw [if_neg c2] at H
    have c2b0 : (t1005 == 0) = false := beq_eq_false_iff_ne.mpr c2
    have c2b1 : (t1005 != 0) = true := bne_iff_ne.mpr c2
    obtain rfl := Option.some.inj H
    go_enter Tryd.func11, Tryd.ntmps11
    go_wp2_with (first | ((with_reducible refine gate_dst (N := 4) rfl ?_); (try (refine gate_guard (by rfl) ?_; dsimp only)); refine Kd.R_lit (Kd.int .i64) _ 3 ?hg (N := 4) ?hd (xs := ([0, 1, 3, 2] : List Int)) (inner := [.int .i64 0, .int .i64 1, .int .i64 3, .int .i64 2]) (ok := fun _ => True) (okp := fun _ => True) ?hr ?hp (fun _ hk => hk) trivial (Below.refl _ _) (Nat.le_refl _) (by simp) ?_; (case hd => rfl); (case hg => rfl); (case hr => first | (go_simp; done) | (go_simp; rfl)); (case hp => exact (Reps.one (show Kd.M (Kd.int .i64) _ _ _ 0 [.int .i64 0] from rfl) (Reps.one (show Kd.M (Kd.int .i64) _ _ _ 1 [.int .i64 1] from rfl) (Reps.one (show Kd.M (Kd.int .i64) _ _ _ 3 [.int .i64 3] from rfl) (Reps.one (show Kd.M (Kd.int .i64) _ _ _ 2 [.int .i64 2] from rfl) (Reps.none _ _)))))); intro v1002 w12 ho13 hb hg_ hnew_; clear hg_ hnew_; (first | rw [← Ny1001.out] at ho13 | (simp only [Int.reduceToNat] at ho13; rw [← Ny1001.out] at ho13)); have n0_ := Aside0.mk (Kd.R_lower ho13 (below_size (by repeat (first | (with_reducible first | exact HB.out | apply below_alloc | apply pw_below_drewN | apply below_drew1) | exact HB.out)))); have n1_ := Aside0.mk (below_step (by repeat (first | (with_reducible first | exact HB.out | apply below_alloc | apply pw_below_drewN | apply below_drew1) | exact HB.out)) hb); clear HB; have HO1003 := n0_; have HB := n1_; clear n0_ n1_; clear hb ho13; obtain ⟨Ao14, co14, eo14⟩ := Kd.R_slice HO1003.out; subst eo14) | ((with_reducible refine gate_callee (f := 48) rfl ?_); refine goesL_ (some 5) rfl rfl Tryd.func48 (by kernel_rfl) rfl #[.slice Ao14 y1001.length co14] rfl (by (try simp only [List.map_toArray, List.map_cons, List.map_nil]); first | done | rfl | (simp only [List.length_drop, List.length_take]; rfl)) ?_; (with_reducible refine (rows_Steps.calls k _ _ y1001 t1004 t1005 _ ?side1 ?side2 A1.out).mono ?_); (case side1 => repeat (first | exact (Kd.R_reads' HO1003.out).2.2 | (with_reducible refine Kd.C_alloc ?_ _) | (with_reducible refine Kd.C_drewN ?_ _) | (with_reducible refine Kd.C_drew ?_))); (case side2 => exact (Kd.R_reads' HO1003.out).2.1); rintro e w15 ⟨v1006, rfl, ho0, hb⟩; refine ⟨_, rfl, ?_⟩; have n0_ := Aside0.mk (Kd.R_elder' (by (with_reducible repeat (first | apply Kd.R_alloc | apply Kd.R_drewN | apply Kd.R_drew)); exact HO1003.out) (Kd.R_base ho0) hb); have n1_ := Aside0.mk (Kd.R_lower (Kd.R_new' ho0 (Kd.R_lt (by (with_reducible repeat (first | apply Kd.R_alloc | apply Kd.R_drewN | apply Kd.R_drew)); exact HO1003.out))) (below_size (by repeat (first | (with_reducible first | exact HB.out | apply below_alloc | apply pw_below_drewN | apply below_drew1) | exact HB.out)))); have n2_ := Aside0.mk (below_step (by repeat (first | (with_reducible first | exact HB.out | apply below_alloc | apply pw_below_drewN | apply below_drew1) | exact HB.out)) hb); clear HO1003; clear HB; have HO1003 := n0_; have HO1007 := n1_; have HB := n2_; clear n0_ n1_ n2_; (try clear hb); (try clear hb2); (try clear hk); (try clear hi); (try clear ho0)))
    go_ret
    exact ⟨by first | rfl | (simp [errW_none, errW_some] <;> rfl) | (simp [*, errW_none, errW_some] <;> rfl), by repeat (first | (with_reducible first | exact HB.out | apply below_alloc | apply pw_below_drewN | apply below_drew1) | exact HB.out)⟩

end Go.Proofs.YtfpnojcbhbkfaaaDoor.P
namespace Go.Proofs.YtfpnojcbhbkfaaaDoor.P
open Go.RowKit Go.Proofs.YtfpnojcbhbkfaaaDoorW.PrintWords Go.Proofs.YtfpnojcbhbkfaaaDoorW.PrintLast Go.Proofs.YtfpnojcbhbkfaaaDoorW.PrintMore
attribute [local go_sem] max2_int min2_int max_two min_two max_three min_three max_four min_four   -- for this text's walks alone
set_option linter.unusedVariables false
set_option linter.unusedSimpArgs false

/-! slices.IndexFunc and ContainsFunc at ints, whatever the predicate -/
def idxP (p : Int → Bool) (l : List Int) : Int := if l.any p then (l.findIdx p : Int) else -1
/-- Called with a number in any later world, the function value answers as p does; it only draws. -/
def GivesBool (g : Nat) (lb : Array Value) (p : Int → Bool) (w : World) : Prop :=
  ∀ (W : World) (x : Int), Below w.heap.size w W → Calls Tryd.prog g (#[.int .i64 x] ++ lb) W fun e w' => e = .returned (.bool (p x)) ∧ Drawn0 W w'
set_option maxHeartbeats 2000000 in
set_option maxRecDepth 100000 in
theorem IndexFunc_calls (p : Int → Bool) (g : Nat) (lb : Array Value) (eg : ∀ args w, (callFunc g args).run Tryd.prog w = .ok (.enter g args) w) (A0 : Option Addr) (c0 : Nat) (l0 : List Int) (w : World)
    (hr0 : Kd.C (Kd.int .i64) w A0 l0.length l0) (hp : GivesBool g lb p w) (hm : l0.length ≤ 9223372036854775807) :
    Calls Tryd.prog 117 #[.slice A0 l0.length c0, .func (.func g) #[] lb] w fun e w' => e = .returned (.int .i64 (idxP p l0)) ∧ Drawn0 w w' := by
  have HR := Aside0.mk hr0
  have hpAt : ∀ (x : Int) (q : Nat), Calls Tryd.prog g (#[.int .i64 x] ++ lb) (w.drewN q) fun e w' => e = .returned (.bool (p x)) ∧ Drawn0 (w.drewN q) w' := fun x q => hp _ x (pw_below_drewN (Below.refl _ w) q)
  have HP := Aside0.mk hpAt
  clear hp hpAt hr0
  go_enter Tryd.func117, Tryd.ntmps117
  go_wp2
  go_loopg [8] l0.length (fun gg s8 wr => ∃ (kk q : Nat), s8 = .int .i64 kk ∧ wr = w.drewN q ∧ Aside0 (kk + gg = l0.length) ∧ Aside0 ((l0.take kk).any p = false))
  case atStart => exact ⟨0, 0, rfl, rfl, ⟨by omega⟩, ⟨by simp⟩⟩
  case round =>
    obtain ⟨kk, q, rfl, rfl, HK, HA⟩ := hrel
    by_cases hlt : kk < l0.length
    · have hltz : (kk : Int) < (l0.length : Int) := by omega
      obtain ⟨ad, ead, hcell0⟩ := Kd.at_int HR.out (kk : Int) (by omega) hltz
      rw [rd_get hlt] at hcell0
      rw [Int.toNat_natCast] at hcell0
      cases ead
      generalize hy : l0[kk] = y at hcell0
      have Hy := Aside0.mk hy
      clear hy
      have hcall := HP.out y
      have hsplit : l0 = l0.take kk ++ y :: l0.drop (kk + 1) := by
        rw [← Hy.out]
        conv => lhs; rw [← List.take_append_drop kk l0]
        rw [List.drop_eq_getElem_cons hlt]
      have HS := Aside0.mk hsplit
      clear hsplit
      cases hq : p y with
      | true =>
        have Hq := Aside0.mk hq
        rw [hq] at hcall
        clear hq
        go_wp2_with (refine (hcall _).mono ?_; rintro e w' ⟨rfl, ⟨q', rfl⟩⟩)
        go_ret
        have h1 : l0.any p = true := by rw [HS.out]; simp [Hq.out]
        have h2 : l0.findIdx p = kk := by
          rw [HS.out, List.findIdx_append]
          have h3 : (l0.take kk).findIdx p = (l0.take kk).length := List.findIdx_eq_length.2 (fun x hx => by
            have := HA.out; rw [List.any_eq_false] at this; simpa using this x hx)
          have h4 : (l0.take kk).length = kk := by rw [List.length_take]; omega
          rw [h3, if_neg (by omega), List.findIdx_cons, Hq.out, h4]
          simp
        refine ⟨?_, ⟨_, rfl⟩⟩
        unfold idxP
        rw [h1, if_pos rfl, h2]; rfl
      | false =>
        have Hq := Aside0.mk hq
        rw [hq] at hcall
        clear hq
        go_wp2_with (refine (hcall _).mono ?_; rintro e w' ⟨rfl, ⟨q', rfl⟩⟩)
        go_roundg (gk - 1)
        case measure => have := HK.out; omega
        case rel =>
          refine ⟨kk + 1, _, by go_num, rfl, ⟨by have := HK.out; omega⟩, ⟨?_⟩⟩
          rw [List.take_succ_eq_append_getElem hlt, List.any_append, HA.out, Hy.out]
          simp [Hq.out]
    · have hltz : ¬ (kk : Int) < (l0.length : Int) := by omega
      have h0 : l0.any p = false := by
        have h := HA.out
        rwa [List.take_of_length_le (by omega)] at h
      have H0 := Aside0.mk h0
      clear h0
      go_wp2
      go_ret
      refine ⟨?_, ⟨_, rfl⟩⟩
      unfold idxP
      rw [H0.out, if_neg (by simp)]; rfl
set_option maxHeartbeats 1000000 in
theorem ContainsFunc_calls (p : Int → Bool) (g : Nat) (lb : Array Value) (eg : ∀ args w, (callFunc g args).run Tryd.prog w = .ok (.enter g args) w) (A0 : Option Addr) (c0 : Nat) (l0 : List Int) (w : World)
    (hr0 : Kd.C (Kd.int .i64) w A0 l0.length l0) (hp : GivesBool g lb p w) (hm : l0.length ≤ 9223372036854775807) :
    Calls Tryd.prog 82 #[.slice A0 l0.length c0, .func (.func g) #[] lb] w fun e w' => e = .returned (.bool (l0.any p)) ∧ Drawn0 w w' := by
  have HC := Aside0.mk (IndexFunc_calls p g lb eg A0 c0 l0 w hr0 hp hm)
  clear hp hr0
  go_enter Tryd.func82, Tryd.ntmps82
  cases hq : l0.any p with
  | true =>
    have Hq := Aside0.mk hq
    have hc := HC.out
    rw [show idxP p l0 = ((l0.findIdx p : Nat) : Int) by unfold idxP; rw [hq, if_pos rfl]] at hc
    have hpos : (0 : Int) ≤ ((l0.findIdx p : Nat) : Int) := by omega
    clear hq
    go_wp2_with (go_at_call 117; refine hc.mono ?_; rintro e w' ⟨rfl, ⟨q', rfl⟩⟩)
    go_ret
    exact ⟨by simp, ⟨_, rfl⟩⟩
  | false =>
    have Hq := Aside0.mk hq
    have hc := HC.out
    rw [show idxP p l0 = -1 by unfold idxP; rw [hq, if_neg (by simp)]] at hc
    clear hq
    go_wp2_with (go_at_call 117; refine hc.mono ?_; rintro e w' ⟨rfl, ⟨q', rfl⟩⟩)
    go_ret
    exact ⟨by simp, ⟨_, rfl⟩⟩

end Go.Proofs.YtfpnojcbhbkfaaaDoor.P
namespace Go.Proofs.YtfpnojcbhbkfaaaDoor.P
open Go.RowKit Go.Proofs.YtfpnojcbhbkfaaaDoorW.PrintWords Go.Proofs.YtfpnojcbhbkfaaaDoorW.PrintLast Go.Proofs.YtfpnojcbhbkfaaaDoorW.PrintMore
attribute [local go_sem] max2_int min2_int max_two min_two max_three min_three max_four min_four   -- for this text's walks alone
set_option linter.unusedVariables false
set_option linter.unusedSimpArgs false

def badChord (n : Int) (c : Int) : Bool := decide (c < 0) || decide (c ≥ shl .i64 1 n)
def chords_circle_valid.f (a0 : Int) (l1 : List Int) : Option Bool := if a0 ≥ 2 then (if a0 ≤ 16 then (if l1.length < 17592186044416 then some (!(l1.any (badChord a0))) else none) else some false) else some false
set_option maxHeartbeats 1000000 in
theorem chords_valid1 (n x : Int) (B : Nat) (W : World) (h2 : 2 ≤ n) (h16 : n ≤ 16) (hc : W.cell? ⟨B, 0, none⟩ = some (.int .i64 n)) :
    Calls Tryd.prog 83 #[.int .i64 x, .pointer (some ⟨B, 0, none⟩)] W fun e w' => e = .returned (.bool (badChord n x)) ∧ Drawn0 W w' := by
  obtain ⟨j, hj⟩ : ∃ j : Int, shl .i64 1 n = j := ⟨_, rfl⟩
  have e1 : IntKind.i64.wrap (2 ^ n.toNat) = j := by rw [← hj]; unfold shl; rw [Nat.min_eq_left (by show n.toNat ≤ 64; omega), Int.one_mul]
  have e2 : wrap64 (2 ^ n.toNat) = j := by rw [← e1]; exact (i64_w _).symm
  have e3 : IntKind.i64.wrap (1 * 2 ^ n.toNat) = j := by rw [Int.one_mul]; exact e1
  have n0 : (0 : Int) ≤ n := by omega
  have n64 : n ≤ 64 := by omega
  have hn : n.toNat ≤ 64 := by omega
  by_cases c1 : x < 0
  · have c1b : decide (x < 0) = true := decide_eq_true c1
    have hf : badChord n x = true := by unfold badChord; rw [c1b]; rfl
    have HF := Aside0.mk hf
    clear hf hj
    go_enter Tryd.func83, Tryd.ntmps83
    go_wp2
    go_ret
    exact ⟨by rw [HF.out]; rfl, Drawn0.refl _⟩
  · have c1b : decide (x < 0) = false := decide_eq_false c1
    have hf : badChord n x = decide (x ≥ j) := by unfold badChord; rw [c1b, hj]; rfl
    have HF := Aside0.mk hf
    clear hf hj
    go_enter Tryd.func83, Tryd.ntmps83
    go_wp2
    go_ret
    exact ⟨by rw [HF.out]; rfl, Drawn0.refl _⟩
set_option maxHeartbeats 2000000 in
theorem chords_circle_valid.calls (a0 : Int) (A1 : Option Addr) (c1 : Nat) (l1 : List Int) (r : Bool) (w : World) (hr1 : Kd.C (Kd.int .i64) w A1 l1.length l1) (hc1 : l1.length ≤ c1) (h : chords_circle_valid.f a0 l1 = some r) :
    Calls Tryd.prog 49 #[.int .i64 a0, .slice A1 l1.length c1] w fun e w' => e = .returned (.bool r) ∧ Below w.heap.size w w' := by
  have HR := Aside0.mk hr1
  clear hr1
  unfold chords_circle_valid.f at h
  by_cases h2 : a0 ≥ 2
  · rw [if_pos h2] at h
    by_cases h16 : a0 ≤ 16
    · rw [if_pos h16] at h
      have hl : l1.length < 17592186044416 := by
        rcases Nat.lt_or_ge l1.length 17592186044416 with hl | hl
        · exact hl
        · rw [if_neg (by omega)] at h; cases h
      rw [if_pos hl] at h
      have hf := Option.some.inj h
      clear h
      have d2 : decide (a0 ≥ 2) = true := decide_eq_true h2
      have d2' : decide (2 ≤ a0) = true := decide_eq_true h2
      have d16 : decide (a0 ≤ 16) = true := decide_eq_true h16
      have HP : GivesBool 83 #[.pointer (some ⟨w.heap.size, 0, none⟩)] (badChord a0) (w.alloc (.cells #[.int .i64 a0] 71)) := fun W x hb => by
        have hc : W.cell? ⟨w.heap.size, 0, none⟩ = some (.int .i64 a0) := (hb.cell (p := ⟨w.heap.size, 0, none⟩) (by simp)).trans (by simp)
        exact chords_valid1 a0 x w.heap.size W (by omega) h16 hc
      have eg : ∀ args w, (callFunc 83 args).run Tryd.prog w = .ok (.enter 83 args) w := enters_of Tryd.func83 (by kernel_rfl) rfl
      have HC := ContainsFunc_calls (badChord a0) 83 #[.pointer (some ⟨w.heap.size, 0, none⟩)] eg A1 c1 l1 (w.alloc (.cells #[.int .i64 a0] 71)) (Kd.C_alloc HR.out _) HP (by omega)
      have HCa := Aside0.mk HC
      clear HC HP hl
      cases hq : l1.any (badChord a0) with
      | true =>
        rw [hq] at hf
        have HCb := HCa.out
        rw [hq] at HCb
        clear hq HCa
        subst hf
        go_enter Tryd.func49, Tryd.ntmps49
        go_wp2_with (go_at_call 82; refine HCb.mono ?_; rintro e w' ⟨rfl, ⟨q', rfl⟩⟩)
        go_ret
        exact ⟨by simp, pw_below_drewN (below_alloc (Below.refl _ _) _) _⟩
      | false =>
        rw [hq] at hf
        have HCb := HCa.out
        rw [hq] at HCb
        clear hq HCa
        subst hf
        go_enter Tryd.func49, Tryd.ntmps49
        go_wp2_with (go_at_call 82; refine HCb.mono ?_; rintro e w' ⟨rfl, ⟨q', rfl⟩⟩)
        go_ret
        exact ⟨by simp, pw_below_drewN (below_alloc (Below.refl _ _) _) _⟩
    · rw [if_neg h16] at h
      have hf := Option.some.inj h
      subst hf
      have d2' : decide (2 ≤ a0) = true := decide_eq_true h2
      have d16 : decide (a0 ≤ 16) = false := decide_eq_false h16
      clear h
      go_enter Tryd.func49, Tryd.ntmps49
      go_wp2
      go_ret
      exact ⟨rfl, below_alloc (Below.refl _ _) _⟩
  · rw [if_neg h2] at h
    have hf := Option.some.inj h
    subst hf
    have d2' : decide (2 ≤ a0) = false := decide_eq_false h2
    clear h
    go_enter Tryd.func49, Tryd.ntmps49
    go_wp2
    go_ret
    exact ⟨rfl, below_alloc (Below.refl _ _) _⟩

end Go.Proofs.YtfpnojcbhbkfaaaDoor.P
namespace Go.Proofs.YtfpnojcbhbkfaaaDoor.P
open Go.RowKit Go.Proofs.YtfpnojcbhbkfaaaDoorW.PrintWords Go.Proofs.YtfpnojcbhbkfaaaDoorW.PrintLast Go.Proofs.YtfpnojcbhbkfaaaDoorW.PrintMore
attribute [local go_sem] max2_int min2_int max_two min_two max_three min_three max_four min_four   -- for this text's walks alone
set_option linter.unusedVariables false
set_option linter.unusedSimpArgs false

/-! ### chords_circle_move: function 51 -/
def chords_circle_move.f (a0 : Int) (a1 : Int) (a2 : Int) : Option (Int) := if a0 = 0 then (none) else (if 0 ≤ (Int.tmod (wrap64 ((Int.tmod a2 a0) + a0)) a0) then (if 0 ≤ (wrap64 (a0 - (Int.tmod (wrap64 ((Int.tmod a2 a0) + a0)) a0))) then (if 0 ≤ a0 then (some (Go.bits .and .i64 (Go.bits .or .i64 (shl .i64 a1 (Int.tmod (wrap64 ((Int.tmod a2 a0) + a0)) a0)) (shr .i64 a1 (wrap64 (a0 - (Int.tmod (wrap64 ((Int.tmod a2 a0) + a0)) a0))))) (wrap64 ((shl .i64 1 a0) - 1)))) else (none)) else (none)) else (none))
set_option maxHeartbeats 8000000 in
set_option maxRecDepth 100000 in
theorem chords_circle_move.calls (a0 : Int) (a1 : Int) (a2 : Int) (r : Int) (w : World) (h : chords_circle_move.f a0 a1 a2 = some r) :
    Calls Tryd.prog 51 #[.int .i64 a0, .int .i64 a1, .int .i64 a2] w fun e w' => e = .returned (.int .i64 r) ∧ Drawn0 w w' := by
  have H : (if a0 = 0 then (none) else (if 0 ≤ (Int.tmod (wrap64 ((Int.tmod a2 a0) + a0)) a0) then (if 0 ≤ (wrap64 (a0 - (Int.tmod (wrap64 ((Int.tmod a2 a0) + a0)) a0))) then (if 0 ≤ a0 then (some (Go.bits .and .i64 (Go.bits .or .i64 (shl .i64 a1 (Int.tmod (wrap64 ((Int.tmod a2 a0) + a0)) a0)) (shr .i64 a1 (wrap64 (a0 - (Int.tmod (wrap64 ((Int.tmod a2 a0) + a0)) a0))))) (wrap64 ((shl .i64 1 a0) - 1)))) else (none)) else (none)) else (none))) = some r := h
  clear h
  by_cases c4 : a0 = 0
  · rw [if_pos c4] at H
    exact absurd H (by simp)
  · rw [if_neg c4] at H
    have c4b0 : (a0 == 0) = false := beq_eq_false_iff_ne.mpr c4
    have c4b1 : (a0 != 0) = true := bne_iff_ne.mpr c4
    obtain ⟨ji5, hji5⟩ : ∃ j_ : Int, (Int.tmod (wrap64 ((Int.tmod a2 a0) + a0)) a0) = j_ := ⟨_, rfl⟩
    replace H : (if 0 ≤ (ji5) then (if 0 ≤ (wrap64 (a0 - (ji5))) then (if 0 ≤ a0 then (some (Go.bits .and .i64 (Go.bits .or .i64 (shl .i64 a1 (ji5)) (shr .i64 a1 (wrap64 (a0 - (ji5))))) (wrap64 ((shl .i64 1 a0) - 1)))) else (none)) else (none)) else (none)) = some r := by first | (rw [hji5] at H; exact H) | (simp only [hji5] at H ⊢; exact H)
    by_cases c6 : 0 ≤ (ji5)
    · rw [if_pos c6] at H
      have c6b0 := eq_true c6
      have c6b1 : decide (0 ≤ (ji5)) = true := decide_eq_true c6
      clear c6
      obtain ⟨ji7, hji7⟩ : ∃ j_ : Int, (shl .i64 a1 (ji5)) = j_ := ⟨_, rfl⟩
      replace H : (if 0 ≤ (wrap64 (a0 - (ji5))) then (if 0 ≤ a0 then (some (Go.bits .and .i64 (Go.bits .or .i64 (ji7) (shr .i64 a1 (wrap64 (a0 - (ji5))))) (wrap64 ((shl .i64 1 a0) - 1)))) else (none)) else (none)) = some r := by first | (rw [hji7] at H; exact H) | (simp only [hji7] at H ⊢; exact H)
      have hji7_ : (IntKind.i64.wrap (a1 * 2 ^ min (ji5).toNat 64)) = ji7 := hji7
      have hji7z : (ji5) ≤ 64 → (IntKind.i64.wrap (a1 * 2 ^ (ji5).toNat)) = ji7 := shl_small hji7
      have hji7y : (wrap64 (a1 * 2 ^ min (ji5).toNat 64)) = ji7 := (i64_w _).symm.trans hji7_
      have hji7x : (ji5) ≤ 64 → (wrap64 (a1 * 2 ^ (ji5).toNat)) = ji7 := fun h_ => (i64_w _).symm.trans (hji7z h_)
      obtain ⟨ji8, hji8⟩ : ∃ j_ : Int, (wrap64 (a0 - (ji5))) = j_ := ⟨_, rfl⟩
      replace H : (if 0 ≤ (ji8) then (if 0 ≤ a0 then (some (Go.bits .and .i64 (Go.bits .or .i64 (ji7) (shr .i64 a1 (ji8))) (wrap64 ((shl .i64 1 a0) - 1)))) else (none)) else (none)) = some r := by first | (rw [hji8] at H; exact H) | (simp only [hji8] at H ⊢; exact H)
      have hji8w : (IntKind.i64.wrap (a0 - (ji5))) = ji8 := (i64_w _).trans hji8
      by_cases c9 : 0 ≤ (ji8)
      · rw [if_pos c9] at H
        have c9b0 := eq_true c9
        have c9b1 : decide (0 ≤ (ji8)) = true := decide_eq_true c9
        clear c9
        obtain ⟨ji10, hji10⟩ : ∃ j_ : Int, (shr .i64 a1 (ji8)) = j_ := ⟨_, rfl⟩
        replace H : (if 0 ≤ a0 then (some (Go.bits .and .i64 (Go.bits .or .i64 (ji7) (ji10)) (wrap64 ((shl .i64 1 a0) - 1)))) else (none)) = some r := by first | (rw [hji10] at H; exact H) | (simp only [hji10] at H ⊢; exact H)
        have hji10_ : (a1 / 2 ^ min (ji8).toNat 64) = ji10 := hji10
        have hji10z : (ji8) ≤ 64 → (a1 / 2 ^ (ji8).toNat) = ji10 := shr_small hji10
        by_cases c11 : 0 ≤ a0
        · rw [if_pos c11] at H
          have c11b0 := eq_true c11
          have c11b1 : decide (0 ≤ a0) = true := decide_eq_true c11
          clear c11
          obtain ⟨ji12, hji12⟩ : ∃ j_ : Int, (shl .i64 1 a0) = j_ := ⟨_, rfl⟩
          replace H : (some (Go.bits .and .i64 (Go.bits .or .i64 (ji7) (ji10)) (wrap64 ((ji12) - 1)))) = some r := by first | (rw [hji12] at H; exact H) | (simp only [hji12] at H ⊢; exact H)
          have hji12_ : (IntKind.i64.wrap (1 * 2 ^ min a0.toNat 64)) = ji12 := hji12
          have hji12z : a0 ≤ 64 → (IntKind.i64.wrap (1 * 2 ^ a0.toNat)) = ji12 := shl_small hji12
          have hji12u : (IntKind.i64.wrap (2 ^ min a0.toNat 64)) = ji12 := by have h_ := hji12_; rw [Int.one_mul] at h_; exact h_
          have hji12v : a0 ≤ 64 → (IntKind.i64.wrap (2 ^ a0.toNat)) = ji12 := fun hle_ => by have h_ := hji12z hle_; rw [Int.one_mul] at h_; exact h_
          have hji12y : (wrap64 (1 * 2 ^ min a0.toNat 64)) = ji12 := (i64_w _).symm.trans hji12_
          have hji12x : a0 ≤ 64 → (wrap64 (1 * 2 ^ a0.toNat)) = ji12 := fun h_ => (i64_w _).symm.trans (hji12z h_)
          obtain rfl := Option.some.inj H
          go_enter Tryd.func51, Tryd.ntmps51
          go_wp2
          repeat (go_quiet (fail); try go_wp2)
          go_ret
          exact ⟨by first | rfl | (simp; done) | (simp only [← hji5, ← hji7, ← hji8, ← hji10, ← hji12] <;> (first | rfl | simp)) | (simp [*]; done), by repeat (first | exact Drawn0.refl _ | apply Drawn0.step)⟩
        · rw [if_neg c11] at H
          exact absurd H (by simp)
      · rw [if_neg c9] at H
        exact absurd H (by simp)
    · rw [if_neg c6] at H
      exact absurd H (by simp)

end Go.Proofs.YtfpnojcbhbkfaaaDoor.P
