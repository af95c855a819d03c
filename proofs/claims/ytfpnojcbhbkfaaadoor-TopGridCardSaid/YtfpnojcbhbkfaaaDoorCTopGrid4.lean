/- A part of a proof that a law's Go function returns true for every input, laid by this session's program mp.py (which drives the kit's print). Conditions: as each theorem states them. -/
import Derived.StillTailTactics
import Derived.Laws.EntriesVeiled
import Derived.Shelf.Abstract
import Derived.RegionTactic
import Derived.Deep.QuietTactic
import Derived.Maps.AppendAt
import Derived.Test.YtfpnojcbhbkfaaaDoorCTopGrid1
import Derived.Test.YtfpnojcbhbkfaaaDoorCTopGrid3
namespace Go.Proofs.YtfpnojcbhbkfaaaDoor.P
open Go.RowKit Go.Proofs.YtfpnojcbhbkfaaaDoorW.PrintWords Go.Proofs.YtfpnojcbhbkfaaaDoorW.PrintLast Go.Proofs.YtfpnojcbhbkfaaaDoorW.PrintMore
attribute [local go_sem] max2_int min2_int max_two min_two max_three min_three max_four min_four   -- for this text's walks alone
set_option linter.unusedVariables false
set_option linter.unusedSimpArgs false

/-! a circle's field: its prime and its root -/
def qT : List Nat := [0, 0, 5, 7, 13, 11, 13, 29, 17, 19, 31, 23, 37, 53, 29, 31, 97]
def wT : List Nat := [0, 0, 4, 2, 5, 3, 4, 7, 2, 4, 15, 2, 8, 10, 4, 7, 8]
def qF (n : Nat) : Nat := qT.getD n 0
def wF (n : Nat) : Nat := wT.getD n 0
theorem field_tab : ((List.range' 2 15).all fun n => decide (2 * n + 1 ≤ qF n) && decide (qF n ≤ 97) && decide (2 ≤ wF n) && decide (wF n < qF n) && decide (qF n % n = 1) && decide (wheels_isPrime.f 60 (qF n : Int) = some true) &&
    ((List.range' (2 * n + 1) (qF n - (2 * n + 1))).all fun q => match wheels_isPrime.f 60 (q : Int) with | some b => !b || decide (q % n ≠ 1) | none => false) &&
    decide (wheels_field_order.f 200 (n : Int) (qF n : Int) (wF n : Int) (wF n : Int) = some (n : Int)) &&
    ((List.range' 2 (wF n - 2)).all fun x => match wheels_field_order.f 200 (n : Int) (qF n : Int) (x : Int) (x : Int) with | some k => decide (k ≠ (n : Int)) | none => false)) = true := by kernel_rfl
theorem field_at {n : Nat} (h2 : 2 ≤ n) (h16 : n ≤ 16) : 2 * n + 1 ≤ qF n ∧ qF n ≤ 97 ∧ 2 ≤ wF n ∧ wF n < qF n ∧ qF n % n = 1 ∧ wheels_isPrime.f 60 (qF n : Int) = some true ∧
    (∀ q, 2 * n + 1 ≤ q → q < qF n → ∃ b, wheels_isPrime.f 60 (q : Int) = some b ∧ (b = false ∨ q % n ≠ 1)) ∧
    wheels_field_order.f 200 (n : Int) (qF n : Int) (wF n : Int) (wF n : Int) = some (n : Int) ∧
    (∀ x, 2 ≤ x → x < wF n → ∃ k, wheels_field_order.f 200 (n : Int) (qF n : Int) (x : Int) (x : Int) = some k ∧ k ≠ (n : Int)) := by
  have h := List.all_eq_true.1 field_tab n (List.mem_range'_1.2 ⟨h2, by omega⟩)
  simp only [Bool.and_eq_true, decide_eq_true_eq] at h
  obtain ⟨⟨⟨⟨⟨⟨⟨⟨a1, a2⟩, a3⟩, a4⟩, a5⟩, a6⟩, a7⟩, a8⟩, a9⟩ := h
  refine ⟨a1, a2, a3, a4, a5, a6, fun q hq1 hq2 => ?_, a8, fun x hx1 hx2 => ?_⟩
  · have := List.all_eq_true.1 a7 q (List.mem_range'_1.2 ⟨hq1, by omega⟩)
    cases hb : wheels_isPrime.f 60 (q : Int) with
    | none => rw [hb] at this; cases this
    | some b =>
      rw [hb] at this
      simp only [Bool.or_eq_true, Bool.not_eq_true', decide_eq_true_eq] at this
      exact ⟨b, rfl, this⟩
  · have := List.all_eq_true.1 a9 x (List.mem_range'_1.2 ⟨hx1, by omega⟩)
    cases hb : wheels_field_order.f 200 (n : Int) (qF n : Int) (x : Int) (x : Int) with
    | none => rw [hb] at this; cases this
    | some k =>
      rw [hb] at this
      exact ⟨k, rfl, of_decide_eq_true this⟩

end Go.Proofs.YtfpnojcbhbkfaaaDoor.P
namespace Go.Proofs.YtfpnojcbhbkfaaaDoor.P
open Go.RowKit Go.Proofs.YtfpnojcbhbkfaaaDoorW.PrintWords Go.Proofs.YtfpnojcbhbkfaaaDoorW.PrintLast Go.Proofs.YtfpnojcbhbkfaaaDoorW.PrintMore
attribute [local go_sem] max2_int min2_int max_two min_two max_three min_three max_four min_four   -- for this text's walks alone
set_option linter.unusedVariables false
set_option linter.unusedSimpArgs false

/-! wheels.read: a circle's field, for no wheel and for one that is fit -/
theorem drawn_two {a b c : World} (h : Drawn0 a b) (k : Drawn0 b c) : Drawn0 a c := by
  obtain ⟨x, rfl⟩ := h
  obtain ⟨y, rfl⟩ := k
  exact ⟨x + y, by rw [World.drewN_drewN]⟩
structure RdAt (n q f Bn BF : Nat) (w : World) : Prop where
  n0 : w.cell? ⟨Bn, 0, none⟩ = some (.int .i64 (n : Int))
  f0 : w.cell? ⟨BF, 0, none⟩ = some (.int .i64 (n : Int))
  f1 : w.cell? ⟨BF, 1, none⟩ = some (.int .i64 (q : Int))
  f2 : w.cell? ⟨BF, 2, none⟩ = some (.int .i64 (f : Int))
theorem RdAt.to {n q f Bn BF : Nat} {w W : World} (h : RdAt n q f Bn BF w) (hb : Below w.heap.size w W) : RdAt n q f Bn BF W := ⟨cell_to h.n0 hb, cell_to h.f0 hb, cell_to h.f1 hb, cell_to h.f2 hb⟩
theorem minL_ge {l : List Nat} (h : l ≠ []) : 0 ≤ minL (natsI l) := by
  obtain ⟨x, l, rfl⟩ := List.exists_cons_of_ne_nil h
  show 0 ≤ (natsI l).foldl min (x : Int)
  have go : ∀ (l : List Nat) (m : Int), 0 ≤ m → 0 ≤ (natsI l).foldl min m := by
    intro l
    induction l with
    | nil => intro m hm; exact hm
    | cons y l ih => intro m hm; exact ih _ (by show 0 ≤ min m (y : Int); omega)
  exact go l _ (by omega)
theorem maxL_lt {l : List Nat} {q : Nat} (h : l ≠ []) (hq : ∀ x ∈ l, x < q) : maxL (natsI l) < (q : Int) := by
  obtain ⟨x, l, rfl⟩ := List.exists_cons_of_ne_nil h
  show (natsI l).foldl max (x : Int) < (q : Int)
  have go : ∀ (l : List Nat) (m : Int), (∀ x ∈ l, x < q) → m < (q : Int) → (natsI l).foldl max m < (q : Int) := by
    intro l
    induction l with
    | nil => intro m _ hm; exact hm
    | cons y l ih => intro m hl hm; exact ih _ (fun x hx => hl x (by simp [hx])) (by show max m (y : Int) < _; have := hl y (by simp); omega)
  exact go l _ (fun x hx => hq x (by simp [hx])) (by have := hq x (by simp); omega)
set_option maxHeartbeats 8000000 in
set_option maxRecDepth 100000 in
theorem read1_calls {n q f Bn BF : Nat} {l : List Nat} {A : Option Addr} {c : Nat} (hn : 1 ≤ n) (hl : l.length = n) (hlq : ∀ x ∈ l, x < q) (w : World) (h : RdAt n q f Bn BF w) (hr : Kd.C (Kd.int .i64) w A (natsI l).length (natsI l)) (hc : l.length ≤ c) :
    Calls Tryd.prog 109 #[.slice A l.length c, .pointer (some ⟨Bn, 0, none⟩), .pointer (some ⟨BF, 0, none⟩)] w fun e w' => e = .returned (.bool false) ∧ Drawn0 w w' := by
  have hne : l ≠ [] := fun e => by rw [e] at hl; simp at hl; omega
  obtain ⟨mn, hmn⟩ : ∃ x, x = minL (natsI l) := ⟨_, rfl⟩
  obtain ⟨mx, hmx⟩ : ∃ x, x = maxL (natsI l) := ⟨_, rfl⟩
  have hmn0 : 0 ≤ mn := by rw [hmn]; exact minL_ge hne
  have hmxq : mx < (q : Int) := by rw [hmx]; exact maxL_lt hne hlq
  have hlen := natsI_len l
  have HMI := Aside0.mk (fun (V : World) (hV : Below w.heap.size w V) => slices_Min_int_int.calls A c (natsI l) mn V (Kd.C_below hr hV) (by rw [hlen]; exact hc) (by unfold slices_Min_int_int.f; rw [hlen, if_neg (by omega), hmn]))
  have HMA := Aside0.mk (fun (V : World) (hV : Below w.heap.size w V) => slices_Max_int_int.calls A c (natsI l) mx V (Kd.C_below hr hV) (by rw [hlen]; exact hc) (by unfold slices_Max_int_int.f; rw [hlen, if_neg (by omega), hmx]))
  rw [hlen, hl] at HMI HMA
  rw [hl]
  have n0 := h.n0
  have f1 := h.f1
  clear hlq hne hmn hmx hr h hlen
  go_enter Tryd.func109, Tryd.ntmps109
  go_wp2_with fail
  have hS0 : w.drew.cell? ⟨Bn, 0, none⟩ = some (.int .i64 (n : Int)) ∧ w.drew.cell? ⟨BF, 1, none⟩ = some (.int .i64 (q : Int)) := ⟨n0, f1⟩
  have hmn1 : decide (mn < 0) = false := decide_eq_false (by omega)
  have hmx1 : decide (mx ≥ (q : Int)) = false := decide_eq_false (by omega)
  have hmx2 : decide ((q : Int) ≤ mx) = false := decide_eq_false (by omega)
  have hmnn : ¬ mn < 0 := by omega
  refine start_ (n := 17) (S := (fun w' => w'.cell? ⟨Bn, 0, none⟩ = some (.int .i64 (n : Int)) ∧ w'.cell? ⟨BF, 1, none⟩ = some (.int .i64 (q : Int)))) (ds := []) #[false, false, false, false, false, false, false, false, false, false, false, false, false, false, false, false, false] (by kernel_rfl) rfl rfl hS0 (fun _ => ?_)
  refine pure_ (i := 0) (N := some 5) (v := ?_) (a' := ?_) #[true, false, false, false, false, false, false, false, false, false, false, false, false, false, false, false, false] rfl rfl (by kernel_rfl) (fun _ _ _ h => h) (Or.inl ⟨by rfl, ?_⟩) ?_ ?_
  rotate_left
  · intro w'
    go_simp
    with_reducible rfl
  rotate_left
  · simp only [Act.put, List.setIfInBounds_toArray, List.set_cons_zero, List.set_cons_succ, i64_w, i32_w]
    rfl
  refine pure_ (i := 1) (N := some 6) (v := ?_) (a' := ?_) #[true, true, false, false, false, false, false, false, false, false, false, false, false, false, false, false, false] rfl rfl (by kernel_rfl) (fun _ _ _ h => h) (Or.inl ⟨by rfl, ?_⟩) ?_ ?_
  rotate_left
  · intro w'
    go_simp
    with_reducible rfl
  rotate_left
  · simp only [Act.put, List.setIfInBounds_toArray, List.set_cons_zero, List.set_cons_succ, i64_w, i32_w]
    rfl
  refine take_ (i := 2) (N := some 7) (v := ?_) (a' := ?_) #[true, true, true, false, false, false, false, false, false, false, false, false, false, false, false, false, false] rfl rfl (by kernel_rfl) (fun _ _ _ h => h) (Or.inl ⟨by rfl, ?_⟩) hS0 ?_ ?_
  rotate_left
  · rintro w' ⟨k0', k1'⟩
    go_simp
    with_reducible rfl
  rotate_left
  · simp only [Act.put, List.setIfInBounds_toArray, List.set_cons_zero, List.set_cons_succ, i64_w, i32_w]
    rfl
  refine pure_ (i := 3) (N := some 8) (v := ?_) (a' := ?_) #[true, true, true, true, false, false, false, false, false, false, false, false, false, false, false, false, false] rfl rfl (by kernel_rfl) (fun _ _ _ h => h) (Or.inl ⟨by rfl, ?_⟩) ?_ ?_
  rotate_left
  · intro w'
    go_simp
    with_reducible rfl
  rotate_left
  · simp only [Act.put, List.setIfInBounds_toArray, List.set_cons_zero, List.set_cons_succ, i64_w, i32_w]
    rfl
  refine pure_ (i := 4) (N := some 9) (v := ?_) (a' := ?_) #[true, true, true, true, true, false, false, false, false, false, false, false, false, false, false, false, false] rfl rfl (by kernel_rfl) (fun _ _ _ h => h) (Or.inl ⟨by rfl, ?_⟩) ?_ ?_
  rotate_left
  · intro w'
    go_simp
    with_reducible rfl
  rotate_left
  · simp only [Act.put, List.setIfInBounds_toArray, List.set_cons_zero, List.set_cons_succ, i64_w, i32_w]
    rfl
  refine pure_ (i := 5) (N := some 10) (v := ?_) (a' := ?_) #[true, true, true, true, true, true, false, false, false, false, false, false, false, false, false, false, false] rfl rfl (by kernel_rfl) (fun _ _ _ h => h) (Or.inl ⟨by rfl, ?_⟩) ?_ ?_
  rotate_left
  · intro w'
    go_simp
    with_reducible rfl
  rotate_left
  · simp only [Act.put, List.setIfInBounds_toArray, List.set_cons_zero, List.set_cons_succ, i64_w, i32_w]
    rfl
  refine one_ (i := 6) (N := some 11) #[true, true, true, true, true, true, true, false, false, false, false, false, false, false, false, false, false] rfl rfl (by kernel_rfl) (by decide) (fun K hK => ?_)
  refine goes_ Tryd.func101 (by kernel_rfl) rfl #[.slice A n c] (by rfl) rfl rfl (by simp only [List.map_toArray, List.map_cons, List.map_nil]; rfl) ?_
  refine (HMI.out _ (below_drew (Below.refl _ _))).mono ?_
  rintro e w5 ⟨rfl, hd5⟩
  refine ⟨_, rfl, ?_⟩
  have hS5 := (show w5.cell? ⟨Bn, 0, none⟩ = some (.int .i64 (n : Int)) ∧ w5.cell? ⟨BF, 1, none⟩ = some (.int .i64 (q : Int)) from ⟨cell_to hS0.1 hd5.below, cell_to hS0.2 hd5.below⟩)
  have HD5 := Aside0.mk (show Drawn0 w w5 from drawn_two ⟨1, rfl⟩ hd5)
  clear hd5
  refine hK.out _ _ hS5 (fun _ => ?_)
  clear hK K
  refine norm_ (a' := ?_) ?_ ?_
  rotate_left
  · show Act.put _ (some 11) _ = _
    simp only [Act.put, List.setIfInBounds_toArray, List.set_cons_zero, List.set_cons_succ, i64_w, i32_w]
    rfl
  refine pure_ (i := 7) (N := some 12) (v := ?_) (a' := ?_) #[true, true, true, true, true, true, true, true, false, false, false, false, false, false, false, false, false] rfl rfl (by kernel_rfl) (fun _ _ _ h => h) (Or.inl ⟨by rfl, ?_⟩) ?_ ?_
  rotate_left
  · intro w'
    go_simp
    with_reducible rfl
  rotate_left
  · simp only [Act.put, List.setIfInBounds_toArray, List.set_cons_zero, List.set_cons_succ, i64_w, i32_w]
    rfl
  refine pure_ (i := 8) (N := some 13) (v := ?_) (a' := ?_) #[true, true, true, true, true, true, true, true, true, false, false, false, false, false, false, false, false] rfl rfl (by kernel_rfl) (fun _ _ _ h => h) (Or.inl ⟨by rfl, ?_⟩) ?_ ?_
  rotate_left
  · intro w'
    go_simp
    with_reducible rfl
  rotate_left
  · simp only [Act.put, List.setIfInBounds_toArray, List.set_cons_zero, List.set_cons_succ, i64_w, i32_w]
    rfl
  refine pure_ (i := 9) (N := some 14) (v := ?_) (a' := ?_) #[true, true, true, true, true, true, true, true, true, true, false, false, false, false, false, false, false] rfl rfl (by kernel_rfl) (fun _ _ _ h => h) (Or.inl ⟨by rfl, ?_⟩) ?_ ?_
  rotate_left
  · intro w'
    go_simp
    with_reducible rfl
  rotate_left
  · simp only [Act.put, List.setIfInBounds_toArray, List.set_cons_zero, List.set_cons_succ, i64_w, i32_w]
    rfl
  refine pure_ (i := 10) (N := some 15) (v := ?_) (a' := ?_) #[true, true, true, true, true, true, true, true, true, true, true, false, false, false, false, false, false] rfl rfl (by kernel_rfl) (fun _ _ _ h => h) (Or.inl ⟨by rfl, ?_⟩) ?_ ?_
  rotate_left
  · intro w'
    go_simp
    with_reducible rfl
  rotate_left
  · simp only [Act.put, List.setIfInBounds_toArray, List.set_cons_zero, List.set_cons_succ, i64_w, i32_w]
    rfl
  refine pure_ (i := 12) (N := some 17) (v := ?_) (a' := ?_) #[true, true, true, true, true, true, true, true, true, true, true, false, true, false, false, false, false] rfl rfl (by kernel_rfl) (fun _ _ _ h => h) (Or.inl ⟨by rfl, ?_⟩) ?_ ?_
  rotate_left
  · intro w'
    go_simp
    with_reducible rfl
  rotate_left
  · simp only [Act.put, List.setIfInBounds_toArray, List.set_cons_zero, List.set_cons_succ, i64_w, i32_w]
    rfl
  refine take_ (i := 13) (N := some 18) (v := ?_) (a' := ?_) #[true, true, true, true, true, true, true, true, true, true, true, false, true, true, false, false, false] rfl rfl (by kernel_rfl) (fun _ _ _ h => h) (Or.inl ⟨by rfl, ?_⟩) hS5 ?_ ?_
  rotate_left
  · rintro w' ⟨k0', k1'⟩
    go_simp
    with_reducible rfl
  rotate_left
  · simp only [Act.put, List.setIfInBounds_toArray, List.set_cons_zero, List.set_cons_succ, i64_w, i32_w]
    rfl
  refine one_ (i := 11) (N := some 16) #[true, true, true, true, true, true, true, true, true, true, true, true, true, true, false, false, false] rfl rfl (by kernel_rfl) (by decide) (fun K hK => ?_)
  refine goes_ Tryd.func102 (by kernel_rfl) rfl #[.slice A n c] (by rfl) rfl rfl (by simp only [List.map_toArray, List.map_cons, List.map_nil]; rfl) ?_
  refine (HMA.out _ HD5.out.below).mono ?_
  rintro e w6 ⟨rfl, hd6⟩
  refine ⟨_, rfl, ?_⟩
  have HD := Aside0.mk (show Drawn0 w w6 from drawn_two HD5.out hd6)
  have hS6 := (show w6.cell? ⟨Bn, 0, none⟩ = some (.int .i64 (n : Int)) ∧ w6.cell? ⟨BF, 1, none⟩ = some (.int .i64 (q : Int)) from ⟨cell_to hS5.1 hd6.below, cell_to hS5.2 hd6.below⟩)
  clear hd6
  refine hK.out _ _ hS6 (fun _ => ?_)
  clear hK K
  refine norm_ (a' := ?_) ?_ ?_
  rotate_left
  · show Act.put _ (some 16) _ = _
    simp only [Act.put, List.setIfInBounds_toArray, List.set_cons_zero, List.set_cons_succ, i64_w, i32_w]
    rfl
  refine pure_ (i := 14) (N := some 19) (v := ?_) (a' := ?_) #[true, true, true, true, true, true, true, true, true, true, true, true, true, true, true, false, false] rfl rfl (by kernel_rfl) (fun _ _ _ h => h) (Or.inl ⟨by rfl, ?_⟩) ?_ ?_
  rotate_left
  · intro w'
    go_simp
    with_reducible rfl
  rotate_left
  · simp only [Act.put, List.setIfInBounds_toArray, List.set_cons_zero, List.set_cons_succ, i64_w, i32_w]
    rfl
  refine pure_ (i := 15) (N := some 20) (v := ?_) (a' := ?_) #[true, true, true, true, true, true, true, true, true, true, true, true, true, true, true, true, false] rfl rfl (by kernel_rfl) (fun _ _ _ h => h) (Or.inl ⟨by rfl, ?_⟩) ?_ ?_
  rotate_left
  · intro w'
    go_simp
    with_reducible rfl
  rotate_left
  · simp only [Act.put, List.setIfInBounds_toArray, List.set_cons_zero, List.set_cons_succ, i64_w, i32_w]
    rfl
  refine pure_ (i := 16) (N := some 4) (v := ?_) (a' := ?_) #[true, true, true, true, true, true, true, true, true, true, true, true, true, true, true, true, true] rfl rfl (by kernel_rfl) (fun _ _ _ h => h) (Or.inl ⟨by rfl, ?_⟩) ?_ ?_
  rotate_left
  · intro w'
    go_simp
    with_reducible rfl
  rotate_left
  · simp only [Act.put, List.setIfInBounds_toArray, List.set_cons_zero, List.set_cons_succ, i64_w, i32_w]
    rfl
  refine done_ (by kernel_rfl) ?_
  go_wp2
  go_ret
  exact ⟨rfl, HD.out⟩
set_option maxHeartbeats 8000000 in
set_option maxRecDepth 100000 in
theorem indexR_nil (g : Nat) (lb : Array Value) (w : World) : Calls Tryd.prog 135 #[.slice none 0 0, .func (.func g) #[] lb] w fun e w' => e = .returned (.int .i64 (-1)) ∧ Drawn0 w w' := by
  go_enter Tryd.func135, Tryd.ntmps135
  go_wp2_with fail
  go_loopg [8] 1 (fun gg s8 wr => s8 = .int .i64 0 ∧ wr = w)
  case atStart => exact ⟨rfl, rfl⟩
  case round =>
    obtain ⟨rfl, rfl⟩ := hrel
    go_wp2
    go_ret
    exact ⟨rfl, ⟨0, rfl⟩⟩
set_option maxHeartbeats 8000000 in
set_option maxRecDepth 100000 in
theorem indexR_one (g : Nat) (lb : Array Value) (R : Nat) (v : Value) (w : World) (eg : ∀ args w, (callFunc g args).run Tryd.prog w = .ok (.enter g args) w) (hc : w.cell? ⟨R, 0, none⟩ = some v)
    (hg : ∀ V, Below w.heap.size w V → Calls Tryd.prog g (#[v] ++ lb) V fun e w' => e = .returned (.bool false) ∧ Drawn0 V w') : Calls Tryd.prog 135 #[.slice (some ⟨R, 0, none⟩) 1 1, .func (.func g) #[] lb] w fun e w' => e = .returned (.int .i64 (-1)) ∧ Drawn0 w w' := by
  have HG := Aside0.mk hg
  clear hg
  go_enter Tryd.func135, Tryd.ntmps135
  go_wp2_with fail
  go_loopg [8] 2 (fun gg s8 wr => ∃ k : Nat, s8 = .int .i64 (k : Int) ∧ (k = 0 ∨ k = 1) ∧ k + gg = 2 ∧ Drawn0 w wr)
  case atStart => exact ⟨0, rfl, .inl rfl, rfl, ⟨0, rfl⟩⟩
  case round =>
    obtain ⟨k, rfl, hk, hkg, ⟨d, rfl⟩⟩ := hrel
    rcases hk with rfl | rfl
    · have HC := Aside0.mk (HG.out (w.drewN d) (pw_below_drewN (Below.refl _ _) d))
      go_wp2_with fail
      refine HC.out.mono ?_
      rintro e w5 ⟨rfl, ⟨dq, rfl⟩⟩
      go_wp2_with fail
      go_roundg 1
      case measure => omega
      case rel => exact ⟨1, by go_num, .inr rfl, rfl, ⟨_, rfl⟩⟩
    · go_wp2
      go_ret
      exact ⟨rfl, ⟨_, rfl⟩⟩
set_option maxHeartbeats 8000000 in
set_option maxRecDepth 100000 in
theorem containsR (g : Nat) (lb : Array Value) (v : Value) (w : World) (h : Calls Tryd.prog 135 #[v, .func (.func g) #[] lb] w fun e w' => e = .returned (.int .i64 (-1)) ∧ Drawn0 w w') : Calls Tryd.prog 108 #[v, .func (.func g) #[] lb] w fun e w' => e = .returned (.bool false) ∧ Drawn0 w w' := by
  have H := Aside0.mk h
  clear h
  go_enter Tryd.func108, Tryd.ntmps108
  go_wp2_with fail
  refine H.out.mono ?_
  rintro e w5 ⟨rfl, ⟨dq, rfl⟩⟩
  go_wp2
  go_ret
  exact ⟨rfl, ⟨_, rfl⟩⟩
theorem results_fld2 {fn : Func} {p u : Tmp} (h : fn.results = #[.cell p 80, .tmp u]) (tmps : Array Value) (w : World) (bq : Nat) (x y z : Int) (v : Value)
    (hp : tmps.getD p undef = .pointer (some ⟨bq, 0, none⟩)) (hv : tmps.getD u undef = v)
    (c0 : w.cell? ⟨bq, 0, none⟩ = some (.int .i64 x)) (c1 : w.cell? ⟨bq, 1, none⟩ = some (.int .i64 y)) (c2 : w.cell? ⟨bq, 2, none⟩ = some (.int .i64 z)) :
    (results fn tmps).run Tryd.prog w = .ok (.tuple #[.agg #[.int .i64 x, .int .i64 y, .int .i64 z], v]) w := by
  have hp' : tmps[p]?.getD undef = .pointer (some ⟨bq, 0, none⟩) := by simpa using hp
  have hv' : tmps[u]?.getD undef = v := by simpa using hv
  unfold results
  simp only [h]
  go_simp
theorem results_fld3 {fn : Func} {p u s : Tmp} (h : fn.results = #[.cell p 80, .tmp u, .tmp s]) (tmps : Array Value) (w : World) (bq : Nat) (x y z : Int) (v v2 : Value)
    (hp : tmps.getD p undef = .pointer (some ⟨bq, 0, none⟩)) (hv : tmps.getD u undef = v) (hv2 : tmps.getD s undef = v2)
    (c0 : w.cell? ⟨bq, 0, none⟩ = some (.int .i64 x)) (c1 : w.cell? ⟨bq, 1, none⟩ = some (.int .i64 y)) (c2 : w.cell? ⟨bq, 2, none⟩ = some (.int .i64 z)) :
    (results fn tmps).run Tryd.prog w = .ok (.tuple #[.agg #[.int .i64 x, .int .i64 y, .int .i64 z], v, v2]) w := by
  have hp' : tmps[p]?.getD undef = .pointer (some ⟨bq, 0, none⟩) := by simpa using hp
  have hv' : tmps[u]?.getD undef = v := by simpa using hv
  have hv2' : tmps[s]?.getD undef = v2 := by simpa using hv2
  unfold results
  simp only [h]
  go_simp
theorem fld_new (w : World) (o : Obj) (x y z : Int) : (∀ i, ((w.alloc o).alloc (.cells #[.int .i64 x, .int .i64 y, .int .i64 z] 80)).cell? ⟨w.heap.size + 1, i, none⟩ = (#[.int .i64 x, .int .i64 y, .int .i64 z] : Array Value)[i]?) := fun i => by
  have h := cells_new (w.alloc o) #[.int .i64 x, .int .i64 y, .int .i64 z] 80 i
  rwa [World.size_alloc] at h
set_option maxHeartbeats 8000000 in
set_option maxRecDepth 100000 in
theorem read_bad (a : Int) (h : a < 2 ∨ a > 16) (v : Value) (w : World) : Calls Tryd.prog 71 #[.int .i64 a, v] w fun e w' => e = .returned (.tuple #[.agg #[.int .i64 0, .int .i64 0, .int .i64 0], .bool false]) ∧ Below w.heap.size w w' := by
  have HB := Aside0.mk (Below.refl w.heap.size w)
  go_enter Tryd.func71, Tryd.ntmps71
  have HB2 := Aside0.mk (show Below w.heap.size w ((w.alloc (.cells #[.int .i64 a] 3)).alloc (.cells #[.int .i64 0, .int .i64 0, .int .i64 0] 80)) from below_alloc (below_alloc (Below.refl _ _) _) _)
  have HFN := Aside0.mk (fld_new w (.cells #[.int .i64 a] 3) 0 0 0)
  by_cases h2 : a < 2
  · go_wp2_with fail
    exact bodyPost_ret (results_fld2 rfl _ _ (w.heap.size + 1) 0 0 0 (.bool false) rfl rfl (HFN.out 0) (HFN.out 1) (HFN.out 2)) rfl ⟨rfl, HB2.out⟩
  · have h16 : a > 16 := by omega
    go_wp2_with fail
    exact bodyPost_ret (results_fld2 rfl _ _ (w.heap.size + 1) 0 0 0 (.bool false) rfl rfl (HFN.out 0) (HFN.out 1) (HFN.out 2)) rfl ⟨rfl, HB2.out⟩
theorem read_new (n : Nat) (w : World) : RdAt n (2 * n + 1) 2 w.heap.size (w.heap.size + 1 + 1) (((w.alloc (.cells #[.int .i64 (n : Int)] 3)).alloc (.cells #[.int .i64 0, .int .i64 0, .int .i64 0] 80)).alloc (.cells #[.int .i64 (n : Int), .int .i64 (2 * (n : Int) + 1), .int .i64 2] 80)) := by
  have e : ((2 * n + 1 : Nat) : Int) = 2 * (n : Int) + 1 := by omega
  have s1 : (w.alloc (.cells #[.int .i64 (n : Int)] 3)).heap.size = w.heap.size + 1 := World.size_alloc _ _
  have s2 : ((w.alloc (.cells #[.int .i64 (n : Int)] 3)).alloc (.cells #[.int .i64 0, .int .i64 0, .int .i64 0] 80)).heap.size = w.heap.size + 1 + 1 := by rw [World.size_alloc, s1]
  have c1 := cells_new w #[.int .i64 (n : Int)] 3 0
  have c3 := fun i => cells_new ((w.alloc (.cells #[.int .i64 (n : Int)] 3)).alloc (.cells #[.int .i64 0, .int .i64 0, .int .i64 0] 80)) #[.int .i64 (n : Int), .int .i64 (2 * (n : Int) + 1), .int .i64 2] 80 i
  rw [s2] at c3
  have hb : ∀ (W : World) (o : Obj), Below W.heap.size W (W.alloc o) := fun W o => below_alloc (Below.refl _ _) o
  exact ⟨cell_to (cell_to c1 (hb _ _)) (hb _ _), c3 0, by rw [e]; exact c3 1, c3 2⟩
theorem setc_other {W : World} {B o p : Nat} (v : Value) (hne : p ≠ o) : (W.setCell ⟨B, o, none⟩ v).cell? ⟨B, p, none⟩ = W.cell? ⟨B, p, none⟩ := by
  unfold World.cell? World.setCell
  simp only [Array.getElem?_modify, if_true]
  cases hW : W.heap[B]? with
  | none => rfl
  | some ob =>
    cases ob with
    | cells c t fz =>
      simp only [Option.isSome_none, Bool.false_eq_true, if_false, Option.map_some]
      rw [Array.getElem?_setIfInBounds_ne (by omega)]
    | _ => rfl
theorem frz_to {w W : World} {B i : Nat} {v : Value} (h : w.cell? ⟨B, 0, none⟩ = some v) (hf : w.frozen? ⟨B, i, none⟩ = false) (hb : Below w.heap.size w W) : W.frozen? ⟨B, i, none⟩ = false := (hb.frozen (p := ⟨B, i, none⟩) (show B < w.heap.size from World.block_lt_of_cell? w ⟨B, 0, none⟩ h)).trans hf
theorem frz_new (W : World) (c : Array Value) (t : TypeId) (i : Nat) : (W.alloc (.cells c t)).frozen? ⟨W.heap.size, i, none⟩ = false := by
  have h : (W.alloc (.cells c t)).heap[W.heap.size]? = some (.cells c t) := by unfold World.alloc; exact Array.getElem?_push_size
  unfold World.frozen?
  simp only [h]
  simp
theorem fld_set {W : World} {B : Nat} {x0 x1 x2 : Value} (a0 a1 a2 : Value) (h0 : W.cell? ⟨B, 0, none⟩ = some x0) (h1 : W.cell? ⟨B, 1, none⟩ = some x1) (h2 : W.cell? ⟨B, 2, none⟩ = some x2) :
    (((W.setCell ⟨B, 0, none⟩ a0).setCell ⟨B, 1, none⟩ a1).setCell ⟨B, 2, none⟩ a2).cell? ⟨B, 0, none⟩ = some a0 ∧ (((W.setCell ⟨B, 0, none⟩ a0).setCell ⟨B, 1, none⟩ a1).setCell ⟨B, 2, none⟩ a2).cell? ⟨B, 1, none⟩ = some a1 ∧ (((W.setCell ⟨B, 0, none⟩ a0).setCell ⟨B, 1, none⟩ a1).setCell ⟨B, 2, none⟩ a2).cell? ⟨B, 2, none⟩ = some a2 := by
  refine ⟨?_, ?_, ?_⟩
  · rw [setc_other _ (by decide), setc_other _ (by decide)]
    exact World.cell?_setCell_same' _ _ _ (by rw [h0]; rfl)
  · rw [setc_other _ (by decide)]
    exact World.cell?_setCell_same' _ _ _ (by rw [setc_other _ (by decide), h1]; rfl)
  · exact World.cell?_setCell_same' _ _ _ (by rw [setc_other _ (by decide), setc_other _ (by decide), h2]; rfl)
structure RdS (n q f Bn : Nat) (w W : World) : Prop where
  at_ : RdAt n q f Bn (Bn + 1 + 1) W
  bl : Below w.heap.size w W
  ge : w.heap.size ≤ Bn
  fr : ∀ i, W.frozen? ⟨Bn + 1, i, none⟩ = false ∧ W.frozen? ⟨Bn + 1 + 1, i, none⟩ = false
  z : ∀ i, i < 3 → W.cell? ⟨Bn + 1, i, none⟩ = some (.int .i64 0)
theorem RdS.to {n q f Bn : Nat} {w W V : World} (h : RdS n q f Bn w W) (hb : Below W.heap.size W V) : RdS n q f Bn w V :=
  ⟨h.at_.to hb, below_step h.bl hb, h.ge, fun i => ⟨frz_to (h.z 0 (by omega)) (h.fr i).1 hb, frz_to h.at_.f0 (h.fr i).2 hb⟩, fun i hi => cell_to (h.z i hi) hb⟩
theorem RdS.setq {n q f Bn : Nat} {w W : World} (h : RdS n q f Bn w W) (q' : Nat) : RdS n q' f Bn w (W.setCell ⟨Bn + 1 + 1, 1, none⟩ (.int .i64 (q' : Int))) := by
  have hge := h.ge
  have far : ∀ (B i : Nat) (v : Value), B ≠ Bn + 1 + 1 → W.cell? ⟨B, i, none⟩ = some v → (W.setCell ⟨Bn + 1 + 1, 1, none⟩ (.int .i64 (q' : Int))).cell? ⟨B, i, none⟩ = some v := fun B i v hB hc => (World.cell?_setCell_far _ _ _ _ (by simp only [ne_eq]; omega)).trans hc
  refine ⟨⟨far _ _ _ (by omega) h.at_.n0, ?_, ?_, ?_⟩, below_set h.bl (by omega), h.ge, fun i => ⟨(World.frozen?_setCell W _ _ _).trans (h.fr i).1, (World.frozen?_setCell W _ _ _).trans (h.fr i).2⟩, fun i hi => far _ _ _ (by omega) (h.z i hi)⟩
  · rw [setc_other _ (by decide)]; exact h.at_.f0
  · exact World.cell?_setCell_same' _ _ _ (by rw [h.at_.f1]; rfl)
  · rw [setc_other _ (by decide)]; exact h.at_.f2
theorem RdS.setf {n q f Bn : Nat} {w W : World} (h : RdS n q f Bn w W) (f' : Nat) : RdS n q f' Bn w (W.setCell ⟨Bn + 1 + 1, 2, none⟩ (.int .i64 (f' : Int))) := by
  have hge := h.ge
  have far : ∀ (B i : Nat) (v : Value), B ≠ Bn + 1 + 1 → W.cell? ⟨B, i, none⟩ = some v → (W.setCell ⟨Bn + 1 + 1, 2, none⟩ (.int .i64 (f' : Int))).cell? ⟨B, i, none⟩ = some v := fun B i v hB hc => (World.cell?_setCell_far _ _ _ _ (by simp only [ne_eq]; omega)).trans hc
  refine ⟨⟨far _ _ _ (by omega) h.at_.n0, ?_, ?_, ?_⟩, below_set h.bl (by omega), h.ge, fun i => ⟨(World.frozen?_setCell W _ _ _).trans (h.fr i).1, (World.frozen?_setCell W _ _ _).trans (h.fr i).2⟩, fun i hi => far _ _ _ (by omega) (h.z i hi)⟩
  · rw [setc_other _ (by decide)]; exact h.at_.f0
  · rw [setc_other _ (by decide)]; exact h.at_.f1
  · exact World.cell?_setCell_same' _ _ _ (by rw [h.at_.f2]; rfl)
theorem rdS_new (n : Nat) (w : World) : RdS n (2 * n + 1) 2 w.heap.size w (((w.alloc (.cells #[.int .i64 (n : Int)] 3)).alloc (.cells #[.int .i64 0, .int .i64 0, .int .i64 0] 80)).alloc (.cells #[.int .i64 (n : Int), .int .i64 (2 * (n : Int) + 1), .int .i64 2] 80)) := by
  have s1 : (w.alloc (.cells #[.int .i64 (n : Int)] 3)).heap.size = w.heap.size + 1 := World.size_alloc _ _
  have s2 : ((w.alloc (.cells #[.int .i64 (n : Int)] 3)).alloc (.cells #[.int .i64 0, .int .i64 0, .int .i64 0] 80)).heap.size = w.heap.size + 1 + 1 := by rw [World.size_alloc, s1]
  have c2 := fun i => cells_new (w.alloc (.cells #[.int .i64 (n : Int)] 3)) #[.int .i64 0, .int .i64 0, .int .i64 0] 80 i
  have e2 := fun i => frz_new (w.alloc (.cells #[.int .i64 (n : Int)] 3)) #[.int .i64 0, .int .i64 0, .int .i64 0] 80 i
  have e3 := fun i => frz_new ((w.alloc (.cells #[.int .i64 (n : Int)] 3)).alloc (.cells #[.int .i64 0, .int .i64 0, .int .i64 0] 80)) #[.int .i64 (n : Int), .int .i64 (2 * (n : Int) + 1), .int .i64 2] 80 i
  rw [s1] at c2 e2
  rw [s2] at e3
  have hb : ∀ (W : World) (o : Obj), Below W.heap.size W (W.alloc o) := fun W o => below_alloc (Below.refl _ _) o
  have hz : ∀ i, i < 3 → ((w.alloc (.cells #[.int .i64 (n : Int)] 3)).alloc (.cells #[.int .i64 0, .int .i64 0, .int .i64 0] 80)).cell? ⟨w.heap.size + 1, i, none⟩ = some (.int .i64 0) := fun i hi => by
    rw [c2 i]
    rcases i with _ | _ | _ | i
    · rfl
    · rfl
    · rfl
    · omega
  exact ⟨read_new n w, below_alloc (below_alloc (below_alloc (Below.refl _ _) _) _) _, Nat.le_refl _, fun i => ⟨frz_to (hz 0 (by omega)) (e2 i) (hb _ _), e3 i⟩, fun i hi => cell_to (hz i hi) (hb _ _)⟩
set_option maxHeartbeats 8000000 in
set_option maxRecDepth 100000 in
theorem read_good {n : Nat} (h2 : 2 ≤ n) (h16 : n ≤ 16) (v : Value) (w : World)
    (hC : ∀ (Bn BF : Nat) (V : World), RdAt n (qF n) (wF n) Bn BF V → Below w.heap.size w V → Calls Tryd.prog 108 #[v, .func (.func 109) #[] #[.pointer (some ⟨Bn, 0, none⟩), .pointer (some ⟨BF, 0, none⟩)]] V fun e W' => e = .returned (.bool false) ∧ Drawn0 V W') :
    Calls Tryd.prog 71 #[.int .i64 (n : Int), v] w fun e w' => e = .returned (.tuple #[.agg #[.int .i64 (n : Int), .int .i64 (qF n : Int), .int .i64 (wF n : Int)], .bool true]) ∧ Below w.heap.size w w' := by
  have HF := Aside0.mk (field_at h2 h16)
  have HCC := Aside0.mk hC
  have HN := Aside0.mk (And.intro h2 h16)
  have HNEW := Aside0.mk (rdS_new n w)
  have hmf : ∀ (fn : Fn) (first cap : Array Value) (w : World), (Instr.makeFunc fn first cap).run Tryd.prog w = .ok (.func fn first cap) w := fun _ _ _ _ => rfl
  have hn2 : ¬ (n : Int) < 2 := by omega
  have hn16 : ¬ (n : Int) > 16 := by omega
  have hn16b : (n : Int) ≤ 16 := by omega
  clear hC h2 h16
  go_enter Tryd.func71, Tryd.ntmps71
  go_wp2_with fail
  obtain ⟨W0, hW0⟩ : ∃ W0, (((w.alloc (.cells #[.int .i64 (n : Int)] 3)).alloc (.cells #[.int .i64 0, .int .i64 0, .int .i64 0] 80)).alloc (.cells #[.int .i64 (n : Int), .int .i64 (2 * (n : Int) + 1), .int .i64 2] 80)) = W0 := ⟨_, rfl⟩
  obtain ⟨Bn, hBn⟩ : ∃ B, w.heap.size = B := ⟨_, rfl⟩
  rw [hW0] at HNEW ⊢
  rw [hBn] at HNEW
  have HBN := Aside0.mk hBn
  clear hW0
  rw [hBn]
  clear hBn
  go_loopg [20] (qF n) (fun gg s20 wr => ∃ q : Nat, 2 * n + 1 ≤ q ∧ q + gg = qF n + (2 * n + 1) ∧ q ≤ qF n ∧ Aside0 (RdS n q 2 Bn w wr))
  case atStart => exact ⟨2 * n + 1, Nat.le_refl _, by omega, HF.out.1, HNEW⟩
  case round =>
    obtain ⟨q, hq1, hqg, hq2, HR⟩ := hrel
    have n0 := HR.out.at_.n0
    have f0 := HR.out.at_.f0
    have f1 := HR.out.at_.f1
    have f2 : wr.cell? ⟨Bn + 1 + 1, 2, none⟩ = some (.int .i64 2) := HR.out.at_.f2
    have fz := (HR.out.fr 1).2
    have HN2 := Aside0.mk (show 2 ≤ n ∧ n ≤ 16 ∧ qF n ≤ 97 from ⟨HN.out.1, HN.out.2, HF.out.2.1⟩)
    have hn0 : ¬ (n : Int) = 0 := by have := HN2.out; omega
    have hn0n : ¬ n = 0 := by have := HN2.out; omega
    by_cases hlt : q < qF n
    · obtain ⟨b, hb, hbn⟩ := HF.out.2.2.2.2.2.2.1 q hq1 hlt
      have HP := Aside0.mk (fun V => wheels_isPrime.calls 60 (q : Int) b V hb)
      have hwr : IntKind.i64.wrap ((q : Int) + 1) = ((q + 1 : Nat) : Int) := by rw [i64_id (by have := HN2.out; omega) (by have := HN2.out; omega)]; omega
      clear hb
      cases b with
      | false =>
        clear hbn
        go_wp2_with fail
        refine (HP.out _).mono ?_
        rintro e w5 ⟨rfl, ⟨dq, rfl⟩⟩
        go_wp2_with fail
        go_roundg (qF n + (2 * n + 1) - (q + 1))
        case measure => omega
        case rel =>
          have h := (HR.out.to (pw_below_drewN (Below.refl _ _) dq)).setq (q + 1)
          rw [show ((q + 1 : Nat) : Int) = (q : Int) + 1 by omega] at h
          exact ⟨q + 1, by omega, by omega, by omega, ⟨h⟩⟩
      | true =>
        have hm : ¬ q % n = 1 := by rcases hbn with h | h; cases h; exact h
        have hmz : ¬ (q : Int) % (n : Int) = 1 := by rw [← Int.natCast_emod]; omega
        have hmt : ¬ Int.tmod (q : Int) (n : Int) = 1 := by rw [Int.tmod_eq_emod_of_nonneg (by omega)]; exact hmz
        clear hbn
        go_wp2_with fail
        refine (HP.out _).mono ?_
        rintro e w5 ⟨rfl, ⟨dq, rfl⟩⟩
        go_wp2_with fail
        go_roundg (qF n + (2 * n + 1) - (q + 1))
        case measure => omega
        case rel =>
          have h := (HR.out.to (pw_below_drewN (Below.refl _ _) dq)).setq (q + 1)
          rw [show ((q + 1 : Nat) : Int) = (q : Int) + 1 by omega] at h
          exact ⟨q + 1, by omega, by omega, by omega, ⟨h⟩⟩
    · have hqe : q = qF n := by omega
      subst hqe
      obtain ⟨Q, hQ⟩ : ∃ Q, qF n = Q := ⟨_, rfl⟩
      have HP := Aside0.mk (fun V => wheels_isPrime.calls 60 (qF n : Int) true V HF.out.2.2.2.2.2.1)
      have hm : qF n % n = 1 := HF.out.2.2.2.2.1
      rw [hQ] at HP hm f1 HR
      have HQQ := Aside0.mk hQ
      have hmz : (Q : Int) % (n : Int) = 1 := by rw [← Int.natCast_emod]; omega
      have hmt : Int.tmod (Q : Int) (n : Int) = 1 := by rw [Int.tmod_eq_emod_of_nonneg (by omega)]; exact hmz
      clear hq1 hqg hq2 hlt hQ
      go_wp2_with fail
      refine (HP.out _).mono ?_
      rintro e w5 ⟨rfl, ⟨dq, rfl⟩⟩
      go_wp2_with fail
      obtain ⟨Wf, hWf⟩ : ∃ x, wF n = x := ⟨_, rfl⟩
      have HWW := Aside0.mk hWf
      have HR2 := Aside0.mk (HR.out.to (pw_below_drewN (Below.refl _ _) dq))
      have HWB := Aside0.mk (show 2 ≤ Wf ∧ Wf < Q ∧ Q ≤ 97 from by rw [← hWf, ← HQQ.out]; exact ⟨HF.out.2.2.1, HF.out.2.2.2.1, HF.out.2.1⟩)
      have HOR := Aside0.mk (show ∀ x : Nat, 2 ≤ x → x ≤ Wf → ∃ k : Int, wheels_field_order.f 200 (n : Int) (Q : Int) (x : Int) (x : Int) = some k ∧ (x < Wf → k ≠ (n : Int)) ∧ (x = Wf → k = (n : Int)) from fun x h2x hxW => by
        rw [← hWf] at hxW ⊢
        rw [← HQQ.out]
        by_cases hlt : x < wF n
        · obtain ⟨k, h1, h3⟩ := HF.out.2.2.2.2.2.2.2.2 x h2x hlt
          exact ⟨k, h1, fun _ => h3, fun e => by omega⟩
        · have e : x = wF n := by omega
          rw [e]
          exact ⟨_, HF.out.2.2.2.2.2.2.2.1, fun h => absurd h (by omega), fun _ => rfl⟩)
      clear hWf hm hmz hmt HR n0 f0 f1 f2 fz
      go_loopg [36] 200 (fun gg s36 wr2 => ∃ x : Nat, 2 ≤ x ∧ x ≤ Wf ∧ x + gg = 202 ∧ Aside0 (RdS n Q x Bn w wr2))
      case atStart => exact ⟨2, Nat.le_refl _, HWB.out.1, rfl, HR2⟩
      case round =>
        obtain ⟨x, hx2, hxW, hxg, HX⟩ := hrel
        obtain ⟨kk, hkk, hk1, hk2⟩ := HOR.out x hx2 hxW
        have HO := Aside0.mk (fun V => wheels_field_order.calls 200 (n : Int) (Q : Int) (x : Int) (x : Int) kk V hkk)
        have hS0 : wr.drew.cell? ⟨Bn, 0, none⟩ = some (.int .i64 (n : Int)) ∧ wr.drew.cell? ⟨Bn + 1 + 1, 0, none⟩ = some (.int .i64 (n : Int)) ∧ wr.drew.cell? ⟨Bn + 1 + 1, 1, none⟩ = some (.int .i64 (Q : Int)) ∧ wr.drew.cell? ⟨Bn + 1 + 1, 2, none⟩ = some (.int .i64 (x : Int)) := ⟨HX.out.at_.n0, HX.out.at_.f0, HX.out.at_.f1, HX.out.at_.f2⟩
        clear hkk
        go_wp2_with fail
        refine start_ (n := 6) (S := (fun w' => w'.cell? ⟨Bn, 0, none⟩ = some (.int .i64 (n : Int)) ∧ w'.cell? ⟨Bn + 1 + 1, 0, none⟩ = some (.int .i64 (n : Int)) ∧ w'.cell? ⟨Bn + 1 + 1, 1, none⟩ = some (.int .i64 (Q : Int)) ∧ w'.cell? ⟨Bn + 1 + 1, 2, none⟩ = some (.int .i64 (x : Int)))) (ds := []) #[false, false, false, false, false, false] (by kernel_rfl) rfl rfl hS0 (fun _ => ?_)
        refine pure_ (i := 1) (N := some 35) (v := ?_) (a' := ?_) #[false, true, false, false, false, false] rfl rfl (by kernel_rfl) (fun _ _ _ h => h) (Or.inl ⟨by rfl, ?_⟩) ?_ ?_
        rotate_left
        · intro w'
          go_simp
          with_reducible rfl
        rotate_left
        · simp only [Act.put, List.setIfInBounds_toArray, List.set_cons_zero, List.set_cons_succ, i64_w, i32_w]
          rfl
        refine take_ (i := 0) (N := some 34) (v := ?_) (a' := ?_) #[true, true, false, false, false, false] rfl rfl (by kernel_rfl) (fun _ _ _ h => h) (Or.inl ⟨by rfl, ?_⟩) hS0 ?_ ?_
        rotate_left
        · rintro w' ⟨k0', k1', k2', k3'⟩
          go_simp
          with_reducible rfl
        rotate_left
        · simp only [Act.put, List.setIfInBounds_toArray, List.set_cons_zero, List.set_cons_succ, i64_w, i32_w]
          rfl
        refine take_ (i := 2) (N := some 36) (v := ?_) (a' := ?_) #[true, true, true, false, false, false] rfl rfl (by kernel_rfl) (fun _ _ _ h => h) (Or.inl ⟨by rfl, ?_⟩) hS0 ?_ ?_
        rotate_left
        · rintro w' ⟨k0', k1', k2', k3'⟩
          go_simp
          with_reducible rfl
        rotate_left
        · simp only [Act.put, List.setIfInBounds_toArray, List.set_cons_zero, List.set_cons_succ, i64_w, i32_w]
          rfl
        refine take_ (i := 4) (N := some 38) (v := ?_) (a' := ?_) #[true, true, true, false, true, false] rfl rfl (by kernel_rfl) (fun _ _ _ h => h) (Or.inl ⟨by rfl, ?_⟩) hS0 ?_ ?_
        rotate_left
        · rintro w' ⟨k0', k1', k2', k3'⟩
          go_simp
          with_reducible rfl
        rotate_left
        · simp only [Act.put, List.setIfInBounds_toArray, List.set_cons_zero, List.set_cons_succ, i64_w, i32_w]
          rfl
        refine one_ (i := 3) (N := some 37) #[true, true, true, true, true, false] rfl rfl (by kernel_rfl) (by decide) (fun K hK => ?_)
        refine goes_ Tryd.func107 (by kernel_rfl) rfl #[.agg #[.int .i64 (n : Int), .int .i64 (Q : Int), .int .i64 (x : Int)], .int .i64 (x : Int)] (by rfl) rfl rfl (by simp only [List.map_toArray, List.map_cons, List.map_nil]; rfl) ?_
        refine (HO.out _).mono ?_
        rintro e w6 ⟨rfl, hb6⟩
        refine ⟨_, rfl, ?_⟩
        have HX6 := Aside0.mk (HX.out.to (below_step (below_drew (Below.refl _ _)) hb6))
        clear hb6
        refine hK.out _ _ ⟨HX6.out.at_.n0, HX6.out.at_.f0, HX6.out.at_.f1, HX6.out.at_.f2⟩ (fun _ => ?_)
        clear hK K
        refine norm_ (a' := ?_) ?_ ?_
        rotate_left
        · show Act.put _ (some 37) _ = _
          simp only [Act.put, List.setIfInBounds_toArray, List.set_cons_zero, List.set_cons_succ, i64_w, i32_w]
          rfl
        refine pure_ (i := 5) (N := some 39) (v := ?_) (a' := ?_) #[true, true, true, true, true, true] rfl rfl (by kernel_rfl) (fun _ _ _ h => h) (Or.inl ⟨by rfl, ?_⟩) ?_ ?_
        rotate_left
        · intro w'
          go_simp
          with_reducible rfl
        rotate_left
        · simp only [Act.put, List.setIfInBounds_toArray, List.set_cons_zero, List.set_cons_succ, i64_w, i32_w]
          rfl
        refine done_ (by kernel_rfl) ?_
        have HXX := Aside0.mk (show x ≤ Wf ∧ Wf < 97 from ⟨hxW, by have := HWB.out; omega⟩)
        by_cases hlt : x < Wf
        · have hne : (kk != (n : Int)) = true := bne_iff_ne.2 (hk1 hlt)
          have hne2 : ¬ kk = (n : Int) := hk1 hlt
          have f2 := HX6.out.at_.f2
          have fz := (HX6.out.fr 2).2
          have hwr : IntKind.i64.wrap ((x : Int) + 1) = ((x + 1 : Nat) : Int) := by rw [i64_id (by have := HXX.out; omega) (by have := HXX.out; omega)]; omega
          clear hk1 hk2
          go_wp2_with fail
          go_roundg (202 - (x + 1))
          case measure => have := HXX.out; omega
          case rel =>
            have h := HX6.out.setf (x + 1)
            rw [show ((x + 1 : Nat) : Int) = (x : Int) + 1 by omega] at h
            have := HXX.out
            exact ⟨x + 1, by omega, by omega, by omega, ⟨h⟩⟩
        · have hxe : x = Wf := by omega
          have heq : kk = (n : Int) := hk2 hxe
          subst heq
          have hne : ((n : Int) != (n : Int)) = false := bne_self_eq_false _
          clear hk1 hk2 hS0
          go_wp2_with fail
          subst hxe
          have hS8 : w6.drew.cell? ⟨Bn, 0, none⟩ = some (.int .i64 (n : Int)) ∧ w6.drew.cell? ⟨Bn + 1 + 1, 0, none⟩ = some (.int .i64 (n : Int)) ∧ w6.drew.cell? ⟨Bn + 1 + 1, 1, none⟩ = some (.int .i64 (Q : Int)) ∧ w6.drew.cell? ⟨Bn + 1 + 1, 2, none⟩ = some (.int .i64 (x : Int)) := ⟨HX6.out.at_.n0, HX6.out.at_.f0, HX6.out.at_.f1, HX6.out.at_.f2⟩
          have HCF := Aside0.mk (HCC.out Bn (Bn + 1 + 1) w6.drew (by rw [HQQ.out, HWW.out]; exact (HX6.out.to (below_drew (Below.refl _ _))).at_) (HX6.out.to (below_drew (Below.refl _ _))).bl)
          refine start_ (n := 7) (S := (fun w' => w'.cell? ⟨Bn, 0, none⟩ = some (.int .i64 (n : Int)) ∧ w'.cell? ⟨Bn + 1 + 1, 0, none⟩ = some (.int .i64 (n : Int)) ∧ w'.cell? ⟨Bn + 1 + 1, 1, none⟩ = some (.int .i64 (Q : Int)) ∧ w'.cell? ⟨Bn + 1 + 1, 2, none⟩ = some (.int .i64 (x : Int)))) (ds := [5]) #[false, false, false, false, false, false, false] (by kernel_rfl) rfl rfl hS8 (fun _ => ?_)
          refine pure_ (i := 1) (N := some 45) (v := ?_) (a' := ?_) #[false, true, false, false, false, false, false] rfl rfl (by kernel_rfl) (fun _ _ _ h => h) (Or.inl ⟨by rfl, ?_⟩) ?_ ?_
          rotate_left
          · intro w'
            go_simp
            with_reducible rfl
          rotate_left
          · simp only [Act.put, List.setIfInBounds_toArray, List.set_cons_zero, List.set_cons_succ, i64_w, i32_w]
            rfl
          refine pure_ (i := 2) (N := some 46) (v := ?_) (a' := ?_) #[false, true, true, false, false, false, false] rfl rfl (by kernel_rfl) (fun _ _ _ h => h) (Or.inl ⟨by rfl, ?_⟩) ?_ ?_
          rotate_left
          · intro w'
            go_simp
            with_reducible rfl
          rotate_left
          · simp only [Act.put, List.setIfInBounds_toArray, List.set_cons_zero, List.set_cons_succ, i64_w, i32_w]
            rfl
          refine take_ (i := 0) (N := some 44) (v := ?_) (a' := ?_) #[true, true, true, false, false, false, false] rfl rfl (by kernel_rfl) (fun _ _ _ h => h) (Or.inl ⟨by rfl, ?_⟩) hS8 ?_ ?_
          rotate_left
          · rintro w' ⟨k0', k1', k2', k3'⟩
            go_simp
            with_reducible rfl
          rotate_left
          · simp only [Act.put, List.setIfInBounds_toArray, List.set_cons_zero, List.set_cons_succ, i64_w, i32_w]
            rfl
          refine one_ (i := 3) (N := some 47) #[true, true, true, true, false, false, false] rfl rfl (by kernel_rfl) (by decide) (fun K hK => ?_)
          refine goes_ Tryd.func108 (by kernel_rfl) rfl #[v, .func (.func 109) #[] #[.pointer (some ⟨Bn, 0, none⟩), .pointer (some ⟨Bn + 1 + 1, 0, none⟩)]] (by rfl) rfl rfl (by simp only [List.map_toArray, List.map_cons, List.map_nil]; rfl) ?_
          refine HCF.out.mono ?_
          rintro e w7 ⟨rfl, hd7⟩
          refine ⟨_, rfl, ?_⟩
          have HX7 := Aside0.mk ((HX6.out.to (below_drew (Below.refl _ _))).to hd7.below)
          clear hd7
          refine hK.out _ _ ⟨HX7.out.at_.n0, HX7.out.at_.f0, HX7.out.at_.f1, HX7.out.at_.f2⟩ (fun _ => ?_)
          clear hK K
          refine norm_ (a' := ?_) ?_ ?_
          rotate_left
          · show Act.put _ (some 47) _ = _
            simp only [Act.put, List.setIfInBounds_toArray, List.set_cons_zero, List.set_cons_succ, i64_w, i32_w]
            rfl
          refine pure_ (i := 4) (N := some 48) (v := ?_) (a' := ?_) #[true, true, true, true, true, false, false] rfl rfl (by kernel_rfl) (fun _ _ _ h => h) (Or.inl ⟨by rfl, ?_⟩) ?_ ?_
          rotate_left
          · intro w'
            go_simp
            with_reducible rfl
          rotate_left
          · simp only [Act.put, List.setIfInBounds_toArray, List.set_cons_zero, List.set_cons_succ, i64_w, i32_w]
            rfl
          have z0 := HX7.out.z 0 (by omega)
          have z1 := HX7.out.z 1 (by omega)
          have z2 := HX7.out.z 2 (by omega)
          have y0 := (HX7.out.fr 0).1
          have y1 := (HX7.out.fr 1).1
          have y2 := (HX7.out.fr 2).1
          refine last_ (i := 5) (N := none) #[true, true, true, true, true, true, false] rfl rfl (by kernel_rfl) (by decide) (fun K hK => ?_)
          refine skip_ (w1 := ((w7.setCell ⟨Bn + 1, 0, none⟩ (.int .i64 (n : Int))).setCell ⟨Bn + 1, 1, none⟩ (.int .i64 (Q : Int))).setCell ⟨Bn + 1, 2, none⟩ (.int .i64 (x : Int))) (by rfl) rfl ?hr5 ?_
          case hr5 => first | (go_simp; done) | (go_simp; rfl)
          refine hK.out _ _ ?_
          clear hK K z0 z1 z2 y0 y1 y2
          refine pure_ (i := 6) (N := some 5) (v := ?_) (a' := ?_) #[true, true, true, true, true, true, true] rfl rfl (by kernel_rfl) (fun _ _ _ h => h) (Or.inl ⟨by rfl, ?_⟩) ?_ ?_
          rotate_left
          · intro w'
            go_simp
            with_reducible rfl
          rotate_left
          · simp only [Act.put, List.setIfInBounds_toArray, List.set_cons_zero, List.set_cons_succ, i64_w, i32_w]
            rfl
          refine done_ (by kernel_rfl) ?_
          obtain ⟨d0, d1_, d2_⟩ := fld_set (.int .i64 (n : Int)) (.int .i64 (Q : Int)) (.int .i64 (x : Int)) (HX7.out.z 0 (by omega)) (HX7.out.z 1 (by omega)) (HX7.out.z 2 (by omega))
          have hge : w.heap.size ≤ Bn + 1 := by have := HX7.out.ge; omega
          have HFIN := Aside0.mk (show Below w.heap.size w (((w7.setCell ⟨Bn + 1, 0, none⟩ (.int .i64 (n : Int))).setCell ⟨Bn + 1, 1, none⟩ (.int .i64 (Q : Int))).setCell ⟨Bn + 1, 2, none⟩ (.int .i64 (x : Int))) from below_set (below_set (below_set HX7.out.bl hge) hge) hge)
          go_wp2_with fail
          exact bodyPost_ret (results_fld2 rfl _ _ (Bn + 1) (n : Int) (Q : Int) (x : Int) (.bool true) rfl rfl d0 d1_ d2_) rfl ⟨by rw [HQQ.out, HWW.out], HFIN.out⟩

end Go.Proofs.YtfpnojcbhbkfaaaDoor.P
namespace Go.Proofs.YtfpnojcbhbkfaaaDoor.P
open Go.RowKit Go.Proofs.YtfpnojcbhbkfaaaDoorW.PrintWords Go.Proofs.YtfpnojcbhbkfaaaDoorW.PrintLast Go.Proofs.YtfpnojcbhbkfaaaDoorW.PrintMore
attribute [local go_sem] max2_int min2_int max_two min_two max_three min_three max_four min_four   -- for this text's walks alone
set_option linter.unusedVariables false
set_option linter.unusedSimpArgs false

/-! wheels.chords: the wheel of one chord -/
def bitW (s k : Nat) : Nat := if s.testBit k then 1 else 0
set_option maxHeartbeats 8000000 in
set_option maxRecDepth 100000 in
theorem chords1_calls (n s Bs : Nat) (hn : n ≤ 16) (hs : s < 2 ^ n) (w : World) (h : w.cell? ⟨Bs, 0, none⟩ = some (.int .i64 (s : Int))) (k : Nat) (hk : k < n) :
    Calls Tryd.prog 94 #[.int .i64 (k : Int), .pointer (some ⟨Bs, 0, none⟩)] w fun e w' => e = .returned (.int .i64 (bitW s k : Int)) ∧ Below w.heap.size w w' := by
  have hb : Go.bits .and .i64 ((s : Int) / 2 ^ k) 1 = (bitW s k : Int) := by
    have h24 : 2 ^ n ≤ 2 ^ 16 := Nat.pow_le_pow_right (by omega) hn
    have h := bit_i64 (a := s) (x := k) (by omega) (by omega)
    rw [shr_i64 _ _ (by omega)] at h
    have e : ((s / 2 ^ k : Nat) : Int) = (s : Int) / 2 ^ k := by push_cast; rfl
    rw [e] at h
    rw [h]
    unfold bitW
    cases s.testBit k <;> rfl
  have hk64 : k ≤ 64 := by omega
  have hk64z : (k : Int) ≤ 64 := by omega
  go_enter Tryd.func94, Tryd.ntmps94
  go_wp2
  go_ret
  exact ⟨by rw [← hb]; rfl, Below.refl _ _⟩
set_option maxHeartbeats 8000000 in
set_option maxRecDepth 100000 in
theorem spectrum_calls (n q f : Nat) (l : List Nat) (A : Option Addr) (c : Nat) (hn1 : 1 ≤ n) (hn : n ≤ 16) (hq : 2 ≤ q) (hq2 : q ≤ 1000) (hu : f < q) (hl : l.length ≤ 16) (hlq : ∀ x ∈ l, x < q) (w : World) (hr : Kd.C (Kd.int .i64) w A (natsI l).length (natsI l)) :
    Calls Tryd.prog 62 #[.agg #[.int .i64 (n : Int), .int .i64 (q : Int), .int .i64 (f : Int)], .slice A l.length c] w fun e w' => ∃ v, e = .returned v ∧ Kd.R (Kd.int .i64) 3 w' w.heap.size (fun _ => True) v (wheelL n q (turnedV q n f l)) ∧ Below w.heap.size w w' := by
  have HT := Aside0.mk (turned_calls n q f f l A c hn1 hn hq hq2 hu hl hlq (w.alloc (.cells #[.int .i64 (n : Int), .int .i64 (q : Int), .int .i64 (f : Int)] 80)) (Kd.C_alloc hr _))
  have HB := Aside0.mk (show Below w.heap.size w (w.alloc (.cells #[.int .i64 (n : Int), .int .i64 (q : Int), .int .i64 (f : Int)] 80)) from below_alloc (Below.refl _ _) _)
  clear hr hlq
  go_enter Tryd.func62, Tryd.ntmps62
  go_wp2_with fail
  refine HT.out.mono ?_
  rintro e w7 ⟨v, rfl, hr7, hb7⟩
  have HX := Aside0.mk (And.intro (Kd.R_lower hr7 (below_size HB.out)) (below_step HB.out hb7))
  clear hr7 hb7
  go_wp2
  go_ret
  exact ⟨v, rfl, HX.out.1, HX.out.2⟩
theorem infoRow9 : (Tryd.prog.info? 22).map (fun i => (i.zero, i.size, i.bytes)) = some (some (.slice none 0 0), 1, 24) := by kernel_rfl
theorem own_one9 {w : World} {base : Nat} {e : TypeId} {v u : Value} (h : w.ownsRow base e 1 v 1 [u]) : ∃ g c, v = .slice (some ⟨g, 0, none⟩) 1 c ∧ w.cell? ⟨g, 0, none⟩ = some u ∧ base ≤ g ∧ g < w.heap.size := by
  have hc : ∀ g, v.ownBlock = some g → ∀ j u', [u][j]? = some u' → w.cell? ((⟨g, 0, none⟩ : Addr).add j) = some u' := fun g hg => h.cells hg
  have hbs : ∀ g, v.ownBlock = some g → base ≤ g := fun g hg => own_base h g hg
  obtain ⟨_, h2⟩ := h
  rcases h2 with ⟨_, h0⟩ | ⟨g, cap, cur, e1, h3⟩
  · omega
  · have := hc g (by rw [e1]; rfl) 0 u rfl
    exact ⟨g, cap, e1, this, hbs g (by rw [e1]; rfl), World.block_lt_of_cell? w _ this⟩
/-- append of one row to none -/
theorem app_row {rest : List Oper} {ops : Array Oper} {o : Oper} {a : Act} {Q : Exit → Act → World → Prop} {W : World} (u : Value) (hu : u.oneCell' = true) (hgd : o.guard = none) (s x : Operand) (t' : TypeId)
    (ho : o.op = .call { callee := .builtin .append, args := #[s, x], argTypes := #[81, 81] }) (hs : a.eval s = .slice none 0 0) (hx : a.eval x = .slice (some ⟨W.heap.size, 0, none⟩) 1 1)
    (h : ∀ G c w1, w1.cell? ⟨G, 0, none⟩ = some u → W.heap.size ≤ G → Below W.heap.size W w1 → wpList Tryd.prog ops Q rest (a.put o.dst (.slice (some ⟨G, 0, none⟩) 1 c)) w1) :
    wpList Tryd.prog ops Q (o :: rest) a (W.alloc (.cells #[u] t')) := by
  obtain ⟨i0, hi, hzz⟩ := Option.map_eq_some_iff.1 infoRow9
  simp only [Prod.mk.injEq] at hzz
  obtain ⟨hz0, hz1, hz2⟩ := hzz
  have hnews : ∀ j u', ([u] : List Value)[j]? = some u' → (W.alloc (.cells #[u] t')).cell? ((⟨W.heap.size, 0, none⟩ : Addr).add j) = some u' := cell_one_new W u t'
  have hsz : (W.alloc (.cells #[u] t')).heap.size = W.heap.size + 1 := by simp
  refine wpList_plain hgd fun K hK => ?_
  obtain ⟨v', w', hr, h2, h3, h4, h5⟩ := run_append_own_at (P := Tryd.prog) (w := W.alloc (.cells #[u] t')) W.heap.size 81 o.type 22 i0 (.slice none 0 0) 1 24 Tryd.underlying81 hi hz0 hz1 hz2 rfl (by omega) (.slice none 0 0) 0 [] (World.ownsRow_nil _ _ _ _) ⟨W.heap.size, 0, none⟩ 1 1 [u] (by simp) hnews (fun u' hu' => by rw [List.mem_singleton.1 hu']; exact hu) (by simp only [maxLen]; omega) (by omega) (by rw [hsz]; omega)
  simp only [List.nil_append, Nat.zero_add] at h2
  obtain ⟨G, c, rfl, hG, hge, _⟩ := own_one9 h2
  have hb : Below W.heap.size W w' := (below_alloc (Below.refl _ _) _).grown h3 (by rw [hsz]; omega) (fun k e => by cases e)
  unfold Oper.wp execOp
  simp only [ho, resolve, invoke, builtin, Sem.run_bind, Sem.run_pure, Result.andThen_ok, List.map_toArray, List.map_cons, List.map_nil, hs, hx, hr]
  exact hK _ _ (h G c w' hG hge hb)
structure ChSt (n q f : Nat) (s : Int) (R Bz BF : Nat) (w W : World) : Prop where
  bl : Below w.heap.size w W
  ge : w.heap.size ≤ Bz
  r0 : W.cell? ⟨R, 0, none⟩ = some (.int .i64 s)
  f0 : W.cell? ⟨BF, 0, none⟩ = some (.int .i64 (n : Int))
  f1 : W.cell? ⟨BF, 1, none⟩ = some (.int .i64 (q : Int))
  f2 : W.cell? ⟨BF, 2, none⟩ = some (.int .i64 (f : Int))
  z : ∀ i, i < 3 → W.cell? ⟨Bz, i, none⟩ = some (.int .i64 0)
  fr : ∀ i, W.frozen? ⟨Bz, i, none⟩ = false
theorem ChSt.to {n q f : Nat} {s : Int} {R Bz BF : Nat} {w W V : World} (h : ChSt n q f s R Bz BF w W) (hb : Below W.heap.size W V) : ChSt n q f s R Bz BF w V :=
  ⟨below_step h.bl hb, h.ge, cell_to h.r0 hb, cell_to h.f0 hb, cell_to h.f1 hb, cell_to h.f2 hb, fun i hi => cell_to (h.z i hi) hb, fun i => frz_to (h.z 0 (by omega)) (h.fr i) hb⟩
theorem chSt_new {n q f : Nat} {s : Int} {R : Nat} {w w1 : World} (hc : w.cell? ⟨R, 0, none⟩ = some (.int .i64 s)) (hb : Below (w.alloc (.cells #[.int .i64 0, .int .i64 0, .int .i64 0] 80)).heap.size (w.alloc (.cells #[.int .i64 0, .int .i64 0, .int .i64 0] 80)) w1) :
    ChSt n q f s R w.heap.size w1.heap.size w (w1.alloc (.cells #[.int .i64 (n : Int), .int .i64 (q : Int), .int .i64 (f : Int)] 80)) := by
  have ha : ∀ (W : World) (o : Obj), Below W.heap.size W (W.alloc o) := fun W o => below_alloc (Below.refl _ _) o
  have c2 := fun i => cells_new w #[.int .i64 0, .int .i64 0, .int .i64 0] 80 i
  have c3 := fun i => cells_new w1 #[.int .i64 (n : Int), .int .i64 (q : Int), .int .i64 (f : Int)] 80 i
  have hz : ∀ i, i < 3 → (w.alloc (.cells #[.int .i64 0, .int .i64 0, .int .i64 0] 80)).cell? ⟨w.heap.size, i, none⟩ = some (.int .i64 0) := fun i hi => by
    rw [c2 i]
    rcases i with _ | _ | _ | i
    · rfl
    · rfl
    · rfl
    · omega
  refine ⟨below_step (below_step (ha _ _) hb) (ha _ _), Nat.le_refl _, cell_to (cell_to (cell_to hc (ha _ _)) hb) (ha _ _), c3 0, c3 1, c3 2, fun i hi => cell_to (cell_to (hz i hi) hb) (ha _ _), fun i => frz_to (cell_to (hz 0 (by omega)) hb) (frz_to (hz 0 (by omega)) (frz_new _ _ _ _) hb) (ha _ _)⟩
set_option maxHeartbeats 8000000 in
set_option maxRecDepth 100000 in
theorem chords_good {n s R : Nat} (h2 : 2 ≤ n) (h16 : n ≤ 16) (hs : s < 2 ^ n) (w : World) (hc : w.cell? ⟨R, 0, none⟩ = some (.int .i64 (s : Int))) :
    Calls Tryd.prog 61 #[.int .i64 (n : Int), .slice (some ⟨R, 0, none⟩) 1 1] w fun e w' => ∃ G c v, e = .returned (.tuple #[.agg #[.int .i64 (n : Int), .int .i64 (qF n : Int), .int .i64 (wF n : Int)], .slice (some ⟨G, 0, none⟩) 1 c, .bool true]) ∧
      w'.cell? ⟨G, 0, none⟩ = some v ∧ Kd.R (Kd.int .i64) 3 w' w.heap.size (fun _ => True) v (wheelL n (qF n) (bitW s)) ∧ Below w.heap.size w w' := by
  have HF := Aside0.mk (field_at h2 h16)
  have HRD := Aside0.mk (fun (V : World) => read_good h2 h16 (.slice none 0 0) V (fun Bn BF V' _ _ => containsR _ _ _ _ (indexR_nil _ _ _)))
  have HN := Aside0.mk (show 2 ≤ n ∧ n ≤ 16 ∧ s < 2 ^ n from ⟨h2, h16, hs⟩)
  clear h2 h16 hs
  go_enter Tryd.func61, Tryd.ntmps61
  go_wp2_with fail
  refine (HRD.out _).mono ?_
  rintro e w1 ⟨rfl, hb1⟩
  obtain ⟨Q, hQ⟩ : ∃ x, qF n = x := ⟨_, rfl⟩
  obtain ⟨Wf, hWf⟩ : ∃ x, wF n = x := ⟨_, rfl⟩
  have HI := Aside0.mk (chSt_new (n := n) (q := Q) (f := Wf) (s := s) hc hb1)
  have HQ := Aside0.mk (And.intro hQ hWf)
  have hnz : ¬ (n : Int) = 0 := by have := HN.out.1; omega
  have hnzn : ¬ n = 0 := by have := HN.out.1; omega
  simp only [hQ, hWf]
  clear hQ hWf hc hb1
  go_wp2_with fail
  obtain ⟨W2, hW2⟩ : ∃ W2, (w1.alloc (.cells #[.int .i64 (n : Int), .int .i64 (Q : Int), .int .i64 (Wf : Int)] 80)) = W2 := ⟨_, rfl⟩
  obtain ⟨Bz, hBz⟩ : ∃ B, w.heap.size = B := ⟨_, rfl⟩
  obtain ⟨BF, hBF⟩ : ∃ B, w1.heap.size = B := ⟨_, rfl⟩
  have HI2 := Aside0.mk (show ChSt n Q Wf s R Bz BF w W2 by rw [← hW2, ← hBz, ← hBF]; exact HI.out)
  have HBZ := Aside0.mk hBz
  rw [hW2, hBz, hBF]
  clear hW2 hBz hBF HI
  go_loopg [10, 23] 2 (fun gg s10 s23 wr => ∃ k : Nat, s23 = .int .i64 (k : Int) ∧ k + gg = 2 ∧ Aside0 (ChSt n Q Wf s R Bz BF w wr) ∧ ((k = 0 ∧ s10 = .slice none 0 0) ∨ (k = 1 ∧ ∃ (G c : Nat) (v : Value), s10 = .slice (some ⟨G, 0, none⟩) 1 c ∧ Aside0 (wr.cell? ⟨G, 0, none⟩ = some v ∧ w.heap.size < G ∧ Kd.R (Kd.int .i64) 3 wr (Bz + 1) (fun _ => True) v (wheelL n Q (bitW s))))))
  case atStart => exact ⟨0, rfl, rfl, HI2, .inl ⟨rfl, rfl⟩⟩
  case round =>
    obtain ⟨k, rfl, hkg, HS, hk⟩ := hrel
    rcases hk with ⟨rfl, rfl⟩ | ⟨rfl, G, c, v, rfl, HG⟩
    · have r0 := HS.out.r0
      have f0 := HS.out.f0
      have f1 := HS.out.f1
      have f2 := HS.out.f2
      have hmf : ∀ (fn : Fn) (first cap : Array Value) (w : World), (Instr.makeFunc fn first cap).run Tryd.prog w = .ok (.func fn first cap) w := fun _ _ _ _ => rfl
      have hs0 : ¬ (s : Int) < 0 := by omega
      have hshl : shl .i64 1 (n : Int) = ((2 ^ n : Nat) : Int) := by rw [shl1_i64 (by have := HN.out; omega)]
      have hn0 : (0 : Int) ≤ (n : Int) := by omega
      go_wp2_with fail
      obtain ⟨W3, hW3⟩ : ∃ W3, (wr.alloc (.cells #[.int .i64 (s : Int)] 3)) = W3 := ⟨_, rfl⟩
      obtain ⟨Bs, hBs⟩ : ∃ B, wr.heap.size = B := ⟨_, rfl⟩
      have hS0 : W3.drew.cell? ⟨Bs, 0, none⟩ = some (.int .i64 (s : Int)) := by rw [← hW3, ← hBs]; exact cells_new _ _ _ _
      have H3 := Aside0.mk (show ChSt n Q Wf s R Bz BF w W3 by rw [← hW3]; exact HS.out.to (below_alloc (Below.refl _ _) _))
      rw [hW3, hBs]
      clear hW3 hBs r0 f0 f1 f2 HS
      refine start_ (n := 11) (S := (fun w' => w'.cell? ⟨Bs, 0, none⟩ = some (.int .i64 (s : Int)))) (ds := []) #[false, false, false, false, false, false, false, false, false, false, false] (by kernel_rfl) rfl rfl hS0 (fun _ => ?_)
      refine pure_ (i := 0) (N := some 27) (v := ?_) (a' := ?_) #[true, false, false, false, false, false, false, false, false, false, false] rfl rfl (by kernel_rfl) (fun _ _ _ h => h) (Or.inl ⟨by rfl, ?_⟩) ?_ ?_
      rotate_left
      · intro w'
        go_simp
        with_reducible rfl
      rotate_left
      · simp only [Act.put, List.setIfInBounds_toArray, List.set_cons_zero, List.set_cons_succ, i64_w, i32_w]
        rfl
      refine pure_ (i := 1) (N := some 28) (v := ?_) (a' := ?_) #[true, true, false, false, false, false, false, false, false, false, false] rfl rfl (by kernel_rfl) (fun _ _ _ h => h) (Or.inl ⟨by rfl, ?_⟩) ?_ ?_
      rotate_left
      · intro w'
        go_simp
        with_reducible rfl
      rotate_left
      · simp only [Act.put, List.setIfInBounds_toArray, List.set_cons_zero, List.set_cons_succ, i64_w, i32_w]
        rfl
      refine take_ (i := 2) (N := some 29) (v := ?_) (a' := ?_) #[true, true, true, false, false, false, false, false, false, false, false] rfl rfl (by kernel_rfl) (fun _ _ _ h => h) (Or.inl ⟨by rfl, ?_⟩) hS0 ?_ ?_
      rotate_left
      · rintro w' k0'
        go_simp
        with_reducible rfl
      rotate_left
      · simp only [Act.put, List.setIfInBounds_toArray, List.set_cons_zero, List.set_cons_succ, i64_w, i32_w]
        rfl
      refine pure_ (i := 3) (N := some 30) (v := ?_) (a' := ?_) #[true, true, true, true, false, false, false, false, false, false, false] rfl rfl (by kernel_rfl) (fun _ _ _ h => h) (Or.inl ⟨by rfl, ?_⟩) ?_ ?_
      rotate_left
      · intro w'
        go_simp
        with_reducible rfl
      rotate_left
      · simp only [Act.put, List.setIfInBounds_toArray, List.set_cons_zero, List.set_cons_succ, i64_w, i32_w]
        rfl
      refine pure_ (i := 4) (N := some 31) (v := ?_) (a' := ?_) #[true, true, true, true, true, false, false, false, false, false, false] rfl rfl (by kernel_rfl) (fun _ _ _ h => h) (Or.inl ⟨by rfl, ?_⟩) ?_ ?_
      rotate_left
      · intro w'
        go_simp
        with_reducible rfl
      rotate_left
      · simp only [Act.put, List.setIfInBounds_toArray, List.set_cons_zero, List.set_cons_succ, i64_w, i32_w]
        rfl
      refine pure_ (i := 5) (N := some 32) (v := ?_) (a' := ?_) #[true, true, true, true, true, true, false, false, false, false, false] rfl rfl (by kernel_rfl) (fun _ _ _ h => h) (Or.inl ⟨by rfl, ?_⟩) ?_ ?_
      rotate_left
      · intro w'
        go_simp
        with_reducible rfl
      rotate_left
      · simp only [Act.put, List.setIfInBounds_toArray, List.set_cons_zero, List.set_cons_succ, i64_w, i32_w]
        rfl
      refine take_ (i := 6) (N := some 33) (v := ?_) (a' := ?_) #[true, true, true, true, true, true, true, false, false, false, false] rfl rfl (by kernel_rfl) (fun _ _ _ h => h) (Or.inl ⟨by rfl, ?_⟩) hS0 ?_ ?_
      rotate_left
      · rintro w' k0'
        go_simp
        with_reducible rfl
      rotate_left
      · simp only [Act.put, List.setIfInBounds_toArray, List.set_cons_zero, List.set_cons_succ, i64_w, i32_w]
        rfl
      refine pure_ (i := 7) (N := some 34) (v := ?_) (a' := ?_) #[true, true, true, true, true, true, true, true, false, false, false] rfl rfl (by kernel_rfl) (fun _ _ _ h => h) (Or.inl ⟨by rfl, ?_⟩) ?_ ?_
      rotate_left
      · intro w'
        go_simp
        with_reducible rfl
      rotate_left
      · simp only [Act.put, List.setIfInBounds_toArray, List.set_cons_zero, List.set_cons_succ, i64_w, i32_w]
        rfl
      refine pure_ (i := 8) (N := some 35) (v := ?_) (a' := ?_) #[true, true, true, true, true, true, true, true, true, false, false] rfl rfl (by kernel_rfl) (fun _ _ _ h => h) (Or.inl ⟨by rfl, ?_⟩) ?_ ?_
      rotate_left
      · intro w'
        go_simp
        with_reducible rfl
      rotate_left
      · simp only [Act.put, List.setIfInBounds_toArray, List.set_cons_zero, List.set_cons_succ, i64_w, i32_w]
        rfl
      refine pure_ (i := 9) (N := some 36) (v := ?_) (a' := ?_) #[true, true, true, true, true, true, true, true, true, true, false] rfl rfl (by kernel_rfl) (fun _ _ _ h => h) (Or.inl ⟨by rfl, ?_⟩) ?_ ?_
      rotate_left
      · intro w'
        go_simp
        with_reducible rfl
      rotate_left
      · simp only [Act.put, List.setIfInBounds_toArray, List.set_cons_zero, List.set_cons_succ, i64_w, i32_w]
        rfl
      refine pure_ (i := 10) (N := some 37) (v := ?_) (a' := ?_) #[true, true, true, true, true, true, true, true, true, true, true] rfl rfl (by kernel_rfl) (fun _ _ _ h => h) (Or.inl ⟨by rfl, ?_⟩) ?_ ?_
      rotate_left
      · intro w'
        go_simp
        with_reducible rfl
      rotate_left
      · simp only [Act.put, List.setIfInBounds_toArray, List.set_cons_zero, List.set_cons_succ, i64_w, i32_w]
        rfl
      refine done_ (by kernel_rfl) ?_
      have e1 : decide ((s : Int) < 0) = false := decide_eq_false (by omega)
      have e2 : decide (wrap64 (2 ^ min n 64) ≤ (s : Int)) = false := by
        have h1 := HN.out
        have hp : 2 ^ n ≤ 2 ^ 16 := Nat.pow_le_pow_right (by omega) h1.2.1
        have e3 : (2 : Int) ^ min n 64 = ((2 ^ n : Nat) : Int) := by rw [Nat.min_eq_left (by omega)]; push_cast; rfl
        rw [e3, wrap_id (by omega) (by omega)]
        exact decide_eq_false (by omega)
      simp only [e1, e2, Bool.or_false]
      have f0 := H3.out.f0
      have f1 := H3.out.f1
      have f2 := H3.out.f2
      have HWH := Aside0.mk (wheel_calls n Q Wf 94 (by have := HN.out; omega) (by have := HF.out; rw [← HQ.out.1]; omega) (by have := HF.out; rw [← HQ.out.1]; omega) #[.pointer (some ⟨Bs, 0, none⟩)] (bitW s) (fun k _ => by unfold bitW; split <;> omega) W3.drew (fun args W => enters_ Tryd.func94 (by kernel_rfl) rfl args W) (fun W k hk hb => chords1_calls n s Bs HN.out.2.1 HN.out.2.2 W (cell_to hS0 hb) k hk))
      clear e1 e2 hshl
      go_wp2_with fail
      refine HWH.out.mono ?_
      rintro e w7 ⟨v, rfl, hr7, hb7⟩
      have H7 := Aside0.mk (show ChSt n Q Wf s R Bz BF w w7 from (H3.out.to (below_drew (Below.refl _ _))).to hb7)
      have HR7 := Aside0.mk (Kd.R_lower hr7 (show Bz + 1 ≤ W3.heap.size from World.block_lt_of_cell? _ _ (H3.out.z 0 (by omega))))
      clear hr7 hb7 f0 f1 f2 hS0
      obtain ⟨A7, c7, e7⟩ := Kd.R_slice HR7.out
      rw [wheelL_len] at e7
      have hone : v.oneCell' = true := by rw [e7]; rfl
      subst e7
      go_wp2_with (first | ((with_reducible refine gate_dst (N := 44) rfl ?_); refine app_row (.slice A7 n c7) hone rfl (.tmp 39) (.tmp 43) _ rfl rfl rfl ?_; intro G c w8 hG hge hb8; have H8 := Aside0.mk (H7.out.to hb8); have HG8 := Aside0.mk (And.intro hG (And.intro hge (Kd.R_below HR7.out hb8))); have HW7 := Aside0.mk (show Bz < w7.heap.size from World.block_lt_of_cell? _ _ (H7.out.z 0 (by omega))); clear hG hge hb8))
      go_roundg 1
      case measure => omega
      case rel => exact ⟨1, by go_num, rfl, ⟨H8.out⟩, .inr ⟨rfl, G, c, _, rfl, ⟨HG8.out.1, by have := HG8.out.2.1; have := HW7.out; have := HBZ.out; omega, HG8.out.2.2⟩⟩⟩
    · have f0 := HS.out.f0
      have f1 := HS.out.f1
      have f2 := HS.out.f2
      have z0 := HS.out.z 0 (by omega)
      have z1 := HS.out.z 1 (by omega)
      have z2 := HS.out.z 2 (by omega)
      have y0 := HS.out.fr 0
      have y1 := HS.out.fr 1
      have y2 := HS.out.fr 2
      obtain ⟨d0, d1_, d2_⟩ := fld_set (.int .i64 (n : Int)) (.int .i64 (Q : Int)) (.int .i64 (Wf : Int)) (HS.out.z 0 (by omega)) (HS.out.z 1 (by omega)) (HS.out.z 2 (by omega))
      have HFIN := Aside0.mk (show Below w.heap.size w (((wr.setCell ⟨Bz, 0, none⟩ (.int .i64 (n : Int))).setCell ⟨Bz, 1, none⟩ (.int .i64 (Q : Int))).setCell ⟨Bz, 2, none⟩ (.int .i64 (Wf : Int))) from below_set (below_set (below_set HS.out.bl HS.out.ge) HS.out.ge) HS.out.ge)
      have HGF := Aside0.mk (show (((wr.setCell ⟨Bz, 0, none⟩ (.int .i64 (n : Int))).setCell ⟨Bz, 1, none⟩ (.int .i64 (Q : Int))).setCell ⟨Bz, 2, none⟩ (.int .i64 (Wf : Int))).cell? ⟨G, 0, none⟩ = some v ∧ Kd.R (Kd.int .i64) 3 (((wr.setCell ⟨Bz, 0, none⟩ (.int .i64 (n : Int))).setCell ⟨Bz, 1, none⟩ (.int .i64 (Q : Int))).setCell ⟨Bz, 2, none⟩ (.int .i64 (Wf : Int))) w.heap.size (fun _ => True) v (wheelL n Q (bitW s)) from by
        have h1 := HG.out.2.1
        have h3 := HBZ.out
        refine ⟨(World.cell?_setCell_far _ _ _ _ (by simp only [ne_eq]; omega)).trans ((World.cell?_setCell_far _ _ _ _ (by simp only [ne_eq]; omega)).trans ((World.cell?_setCell_far _ _ _ _ (by simp only [ne_eq]; omega)).trans HG.out.1)), ?_⟩
        refine Kd.R_lower (Kd.R_mono (Kd.R_move (Kd.R_bound HG.out.2.2) (fun i hi => ?_)) (fun _ _ => trivial)) (by omega)
        have hne : i ≠ Bz := by have := hi.2.1; omega
        exact (Below.heap_setCell _ _ _ _ (by simp only [ne_eq]; exact hne)).trans ((Below.heap_setCell _ _ _ _ (by simp only [ne_eq]; exact hne)).trans (Below.heap_setCell _ _ _ _ (by simp only [ne_eq]; exact hne))))
      go_wp2_with fail
      exact bodyPost_ret (results_fld3 rfl _ _ Bz (n : Int) (Q : Int) (Wf : Int) (.slice (some ⟨G, 0, none⟩) 1 c) (.bool true) rfl rfl rfl d0 d1_ d2_) rfl ⟨G, c, v, by rw [HQ.out.1, HQ.out.2], HGF.out.1, by rw [HQ.out.1]; exact HGF.out.2, HFIN.out⟩
set_option maxHeartbeats 8000000 in
set_option maxRecDepth 100000 in
theorem chords_none {a s : Int} {R : Nat} (h : a < 2 ∨ a > 16) (w : World) (hc : w.cell? ⟨R, 0, none⟩ = some (.int .i64 s)) :
    Calls Tryd.prog 61 #[.int .i64 a, .slice (some ⟨R, 0, none⟩) 1 1] w fun e w' => (∃ x y z : Int, e = .returned (.tuple #[.agg #[.int .i64 x, .int .i64 y, .int .i64 z], .slice none 0 0, .bool false])) ∧ Below w.heap.size w w' := by
  have HRD := Aside0.mk (fun (V : World) => read_bad a h (.slice none 0 0) V)
  clear h
  go_enter Tryd.func61, Tryd.ntmps61
  go_wp2_with fail
  refine (HRD.out _).mono ?_
  rintro e w1 ⟨rfl, hb1⟩
  have HI := Aside0.mk (chSt_new (n := 0) (q := 0) (f := 0) (s := s) hc hb1)
  clear hc hb1
  go_wp2_with fail
  obtain ⟨W2, hW2⟩ : ∃ W2, (w1.alloc (.cells #[.int .i64 0, .int .i64 0, .int .i64 0] 80)) = W2 := ⟨_, rfl⟩
  obtain ⟨Bz, hBz⟩ : ∃ B, w.heap.size = B := ⟨_, rfl⟩
  obtain ⟨BF, hBF⟩ : ∃ B, w1.heap.size = B := ⟨_, rfl⟩
  have HI2 := Aside0.mk (show ChSt 0 0 0 s R Bz BF w W2 by rw [← hW2, ← hBz, ← hBF]; exact HI.out)
  rw [hW2, hBz, hBF]
  clear hW2 hBz hBF HI
  go_loopg [10, 23] 1 (fun gg s10 s23 wr => s23 = .int .i64 0 ∧ s10 = .slice none 0 0 ∧ Aside0 (ChSt 0 0 0 s R Bz BF w wr))
  case atStart => exact ⟨rfl, rfl, HI2⟩
  case round =>
    obtain ⟨rfl, rfl, HS⟩ := hrel
    have r0 := HS.out.r0
    go_wp2_with fail
    obtain ⟨W3, hW3⟩ : ∃ W3, (wr.alloc (.cells #[.int .i64 s] 3)) = W3 := ⟨_, rfl⟩
    obtain ⟨Bs, hBs⟩ : ∃ B, wr.heap.size = B := ⟨_, rfl⟩
    have hS0 : W3.drew.cell? ⟨Bs, 0, none⟩ = some (.int .i64 s) := by rw [← hW3, ← hBs]; exact cells_new _ _ _ _
    have H3 := Aside0.mk (show ChSt 0 0 0 s R Bz BF w W3 by rw [← hW3]; exact HS.out.to (below_alloc (Below.refl _ _) _))
    rw [hW3, hBs]
    clear hW3 hBs r0 HS
    refine start_ (n := 11) (S := (fun w' => w'.cell? ⟨Bs, 0, none⟩ = some (.int .i64 s))) (ds := []) #[false, false, false, false, false, false, false, false, false, false, false] (by kernel_rfl) rfl rfl hS0 (fun _ => ?_)
    refine pure_ (i := 0) (N := some 27) (v := ?_) (a' := ?_) #[true, false, false, false, false, false, false, false, false, false, false] rfl rfl (by kernel_rfl) (fun _ _ _ h => h) (Or.inl ⟨by rfl, ?_⟩) ?_ ?_
    rotate_left
    · intro w'
      go_simp
      with_reducible rfl
    rotate_left
    · simp only [Act.put, List.setIfInBounds_toArray, List.set_cons_zero, List.set_cons_succ, i64_w, i32_w]
      rfl
    refine pure_ (i := 1) (N := some 28) (v := ?_) (a' := ?_) #[true, true, false, false, false, false, false, false, false, false, false] rfl rfl (by kernel_rfl) (fun _ _ _ h => h) (Or.inl ⟨by rfl, ?_⟩) ?_ ?_
    rotate_left
    · intro w'
      go_simp
      with_reducible rfl
    rotate_left
    · simp only [Act.put, List.setIfInBounds_toArray, List.set_cons_zero, List.set_cons_succ, i64_w, i32_w]
      rfl
    refine pure_ (i := 2) (N := some 29) (v := undef) (a' := ?_) #[true, true, true, false, false, false, false, false, false, false, false] rfl rfl (by kernel_rfl) (fun _ _ _ h => h) (Or.inr ⟨by rfl, rfl⟩) ?_ ?_
    rotate_left
    · simp only [Act.put, List.setIfInBounds_toArray, List.set_cons_zero, List.set_cons_succ, i64_w, i32_w]
      rfl
    refine pure_ (i := 3) (N := some 30) (v := undef) (a' := ?_) #[true, true, true, true, false, false, false, false, false, false, false] rfl rfl (by kernel_rfl) (fun _ _ _ h => h) (Or.inr ⟨by rfl, rfl⟩) ?_ ?_
    rotate_left
    · simp only [Act.put, List.setIfInBounds_toArray, List.set_cons_zero, List.set_cons_succ, i64_w, i32_w]
      rfl
    refine pure_ (i := 4) (N := some 31) (v := ?_) (a' := ?_) #[true, true, true, true, true, false, false, false, false, false, false] rfl rfl (by kernel_rfl) (fun _ _ _ h => h) (Or.inl ⟨by rfl, ?_⟩) ?_ ?_
    rotate_left
    · intro w'
      go_simp
      with_reducible rfl
    rotate_left
    · simp only [Act.put, List.setIfInBounds_toArray, List.set_cons_zero, List.set_cons_succ, i64_w, i32_w]
      rfl
    refine pure_ (i := 5) (N := some 32) (v := ?_) (a' := ?_) #[true, true, true, true, true, true, false, false, false, false, false] rfl rfl (by kernel_rfl) (fun _ _ _ h => h) (Or.inl ⟨by rfl, ?_⟩) ?_ ?_
    rotate_left
    · intro w'
      go_simp
      with_reducible rfl
    rotate_left
    · simp only [Act.put, List.setIfInBounds_toArray, List.set_cons_zero, List.set_cons_succ, i64_w, i32_w]
      rfl
    refine pure_ (i := 6) (N := some 33) (v := undef) (a' := ?_) #[true, true, true, true, true, true, true, false, false, false, false] rfl rfl (by kernel_rfl) (fun _ _ _ h => h) (Or.inr ⟨by rfl, rfl⟩) ?_ ?_
    rotate_left
    · simp only [Act.put, List.setIfInBounds_toArray, List.set_cons_zero, List.set_cons_succ, i64_w, i32_w]
      rfl
    refine pure_ (i := 7) (N := some 34) (v := undef) (a' := ?_) #[true, true, true, true, true, true, true, true, false, false, false] rfl rfl (by kernel_rfl) (fun _ _ _ h => h) (Or.inr ⟨by rfl, rfl⟩) ?_ ?_
    rotate_left
    · simp only [Act.put, List.setIfInBounds_toArray, List.set_cons_zero, List.set_cons_succ, i64_w, i32_w]
      rfl
    refine pure_ (i := 8) (N := some 35) (v := undef) (a' := ?_) #[true, true, true, true, true, true, true, true, true, false, false] rfl rfl (by kernel_rfl) (fun _ _ _ h => h) (Or.inr ⟨by rfl, rfl⟩) ?_ ?_
    rotate_left
    · simp only [Act.put, List.setIfInBounds_toArray, List.set_cons_zero, List.set_cons_succ, i64_w, i32_w]
      rfl
    refine pure_ (i := 9) (N := some 36) (v := undef) (a' := ?_) #[true, true, true, true, true, true, true, true, true, true, false] rfl rfl (by kernel_rfl) (fun _ _ _ h => h) (Or.inr ⟨by rfl, rfl⟩) ?_ ?_
    rotate_left
    · simp only [Act.put, List.setIfInBounds_toArray, List.set_cons_zero, List.set_cons_succ, i64_w, i32_w]
      rfl
    refine pure_ (i := 10) (N := some 37) (v := ?_) (a' := ?_) #[true, true, true, true, true, true, true, true, true, true, true] rfl rfl (by kernel_rfl) (fun _ _ _ h => h) (Or.inl ⟨by rfl, ?_⟩) ?_ ?_
    rotate_left
    · intro w'
      go_simp
      with_reducible rfl
    rotate_left
    · simp only [Act.put, List.setIfInBounds_toArray, List.set_cons_zero, List.set_cons_succ, i64_w, i32_w]
      rfl
    refine done_ (by kernel_rfl) ?_
    have f0 := H3.out.f0
    have f1 := H3.out.f1
    have f2 := H3.out.f2
    have z0 := H3.out.z 0 (by omega)
    have z1 := H3.out.z 1 (by omega)
    have z2 := H3.out.z 2 (by omega)
    have y0 := H3.out.fr 0
    have y1 := H3.out.fr 1
    have y2 := H3.out.fr 2
    obtain ⟨d0, d1_, d2_⟩ := fld_set (.int .i64 0) (.int .i64 0) (.int .i64 0) (H3.out.z 0 (by omega)) (H3.out.z 1 (by omega)) (H3.out.z 2 (by omega))
    have HFIN := Aside0.mk (show Below w.heap.size w (((W3.setCell ⟨Bz, 0, none⟩ (.int .i64 0)).setCell ⟨Bz, 1, none⟩ (.int .i64 0)).setCell ⟨Bz, 2, none⟩ (.int .i64 0)).drew from (below_set (below_set (below_set H3.out.bl H3.out.ge) H3.out.ge) H3.out.ge).drew)
    go_wp2_with fail
    exact bodyPost_ret (results_fld3 rfl _ _ Bz 0 0 0 (.slice none 0 0) (.bool false) rfl rfl rfl d0 d1_ d2_) rfl ⟨⟨_, _, _, rfl⟩, HFIN.out⟩
set_option maxHeartbeats 8000000 in
set_option maxRecDepth 100000 in
theorem chords_far {n R : Nat} {s : Int} (h2 : 2 ≤ n) (h16 : n ≤ 16) (h : s < 0 ∨ (2 : Int) ^ n ≤ s) (w : World) (hc : w.cell? ⟨R, 0, none⟩ = some (.int .i64 s)) :
    Calls Tryd.prog 61 #[.int .i64 (n : Int), .slice (some ⟨R, 0, none⟩) 1 1] w fun e w' => (∃ x y z : Int, e = .returned (.tuple #[.agg #[.int .i64 x, .int .i64 y, .int .i64 z], .slice none 0 0, .bool false])) ∧ Below w.heap.size w w' := by
  have HRD := Aside0.mk (fun (V : World) => read_good h2 h16 (.slice none 0 0) V (fun Bn BF V' _ _ => containsR _ _ _ _ (indexR_nil _ _ _)))
  have HN := Aside0.mk (show 2 ≤ n ∧ n ≤ 16 ∧ (s < 0 ∨ (2 : Int) ^ n ≤ s) from ⟨h2, h16, h⟩)
  clear h2 h16 h
  go_enter Tryd.func61, Tryd.ntmps61
  go_wp2_with fail
  refine (HRD.out _).mono ?_
  rintro e w1 ⟨rfl, hb1⟩
  obtain ⟨Q, hQ⟩ : ∃ x, qF n = x := ⟨_, rfl⟩
  obtain ⟨Wf, hWf⟩ : ∃ x, wF n = x := ⟨_, rfl⟩
  have HI := Aside0.mk (chSt_new (n := n) (q := Q) (f := Wf) (s := s) hc hb1)
  have hnz : ¬ (n : Int) = 0 := by have := HN.out.1; omega
  have hnzn : ¬ n = 0 := by have := HN.out.1; omega
  simp only [hQ, hWf]
  clear hQ hWf hc hb1
  go_wp2_with fail
  obtain ⟨W2, hW2⟩ : ∃ W2, (w1.alloc (.cells #[.int .i64 (n : Int), .int .i64 (Q : Int), .int .i64 (Wf : Int)] 80)) = W2 := ⟨_, rfl⟩
  obtain ⟨Bz, hBz⟩ : ∃ B, w.heap.size = B := ⟨_, rfl⟩
  obtain ⟨BF, hBF⟩ : ∃ B, w1.heap.size = B := ⟨_, rfl⟩
  have HI2 := Aside0.mk (show ChSt n Q Wf s R Bz BF w W2 by rw [← hW2, ← hBz, ← hBF]; exact HI.out)
  rw [hW2, hBz, hBF]
  clear hW2 hBz hBF HI
  go_loopg [10, 23] 1 (fun gg s10 s23 wr => s23 = .int .i64 0 ∧ s10 = .slice none 0 0 ∧ Aside0 (ChSt n Q Wf s R Bz BF w wr))
  case atStart => exact ⟨rfl, rfl, HI2⟩
  case round =>
    obtain ⟨rfl, rfl, HS⟩ := hrel
    have r0 := HS.out.r0
    go_wp2_with fail
    obtain ⟨W3, hW3⟩ : ∃ W3, (wr.alloc (.cells #[.int .i64 s] 3)) = W3 := ⟨_, rfl⟩
    obtain ⟨Bs, hBs⟩ : ∃ B, wr.heap.size = B := ⟨_, rfl⟩
    have hS0 : W3.drew.cell? ⟨Bs, 0, none⟩ = some (.int .i64 s) := by rw [← hW3, ← hBs]; exact cells_new _ _ _ _
    have H3 := Aside0.mk (show ChSt n Q Wf s R Bz BF w W3 by rw [← hW3]; exact HS.out.to (below_alloc (Below.refl _ _) _))
    rw [hW3, hBs]
    clear hW3 hBs r0 HS
    by_cases hlt : s < 0
    · have e1 : decide (s < 0) = true := decide_eq_true hlt
      refine start_ (n := 11) (S := (fun w' => w'.cell? ⟨Bs, 0, none⟩ = some (.int .i64 s))) (ds := []) #[false, false, false, false, false, false, false, false, false, false, false] (by kernel_rfl) rfl rfl hS0 (fun _ => ?_)
      refine pure_ (i := 0) (N := some 27) (v := ?_) (a' := ?_) #[true, false, false, false, false, false, false, false, false, false, false] rfl rfl (by kernel_rfl) (fun _ _ _ h => h) (Or.inl ⟨by rfl, ?_⟩) ?_ ?_
      rotate_left
      · intro w'
        go_simp
        with_reducible rfl
      rotate_left
      · simp only [Act.put, List.setIfInBounds_toArray, List.set_cons_zero, List.set_cons_succ, i64_w, i32_w]
        rfl
      refine pure_ (i := 1) (N := some 28) (v := ?_) (a' := ?_) #[true, true, false, false, false, false, false, false, false, false, false] rfl rfl (by kernel_rfl) (fun _ _ _ h => h) (Or.inl ⟨by rfl, ?_⟩) ?_ ?_
      rotate_left
      · intro w'
        go_simp
        with_reducible rfl
      rotate_left
      · simp only [Act.put, List.setIfInBounds_toArray, List.set_cons_zero, List.set_cons_succ, i64_w, i32_w]
        rfl
      refine take_ (i := 2) (N := some 29) (v := ?_) (a' := ?_) #[true, true, true, false, false, false, false, false, false, false, false] rfl rfl (by kernel_rfl) (fun _ _ _ h => h) (Or.inl ⟨by rfl, ?_⟩) hS0 ?_ ?_
      rotate_left
      · rintro w' k0'
        go_simp
        with_reducible rfl
      rotate_left
      · simp only [Act.put, List.setIfInBounds_toArray, List.set_cons_zero, List.set_cons_succ, i64_w, i32_w]
        rfl
      refine pure_ (i := 3) (N := some 30) (v := ?_) (a' := ?_) #[true, true, true, true, false, false, false, false, false, false, false] rfl rfl (by kernel_rfl) (fun _ _ _ h => h) (Or.inl ⟨by rfl, ?_⟩) ?_ ?_
      rotate_left
      · intro w'
        go_simp
        with_reducible rfl
      rotate_left
      · simp only [Act.put, List.setIfInBounds_toArray, List.set_cons_zero, List.set_cons_succ, i64_w, i32_w]
        rfl
      refine pure_ (i := 4) (N := some 31) (v := ?_) (a' := ?_) #[true, true, true, true, true, false, false, false, false, false, false] rfl rfl (by kernel_rfl) (fun _ _ _ h => h) (Or.inl ⟨by rfl, ?_⟩) ?_ ?_
      rotate_left
      · intro w'
        go_simp
        with_reducible rfl
      rotate_left
      · simp only [Act.put, List.setIfInBounds_toArray, List.set_cons_zero, List.set_cons_succ, i64_w, i32_w]
        rfl
      refine pure_ (i := 5) (N := some 32) (v := ?_) (a' := ?_) #[true, true, true, true, true, true, false, false, false, false, false] rfl rfl (by kernel_rfl) (fun _ _ _ h => h) (Or.inl ⟨by rfl, ?_⟩) ?_ ?_
      rotate_left
      · intro w'
        go_simp
        with_reducible rfl
      rotate_left
      · simp only [Act.put, List.setIfInBounds_toArray, List.set_cons_zero, List.set_cons_succ, i64_w, i32_w]
        rfl
      refine pure_ (i := 6) (N := some 33) (v := undef) (a' := ?_) #[true, true, true, true, true, true, true, false, false, false, false] rfl rfl (by kernel_rfl) (fun _ _ _ h => h) (Or.inr ⟨by rfl, rfl⟩) ?_ ?_
      rotate_left
      · simp only [Act.put, List.setIfInBounds_toArray, List.set_cons_zero, List.set_cons_succ, i64_w, i32_w]
        rfl
      refine pure_ (i := 7) (N := some 34) (v := undef) (a' := ?_) #[true, true, true, true, true, true, true, true, false, false, false] rfl rfl (by kernel_rfl) (fun _ _ _ h => h) (Or.inr ⟨by rfl, rfl⟩) ?_ ?_
      rotate_left
      · simp only [Act.put, List.setIfInBounds_toArray, List.set_cons_zero, List.set_cons_succ, i64_w, i32_w]
        rfl
      refine pure_ (i := 8) (N := some 35) (v := undef) (a' := ?_) #[true, true, true, true, true, true, true, true, true, false, false] rfl rfl (by kernel_rfl) (fun _ _ _ h => h) (Or.inr ⟨by rfl, rfl⟩) ?_ ?_
      rotate_left
      · simp only [Act.put, List.setIfInBounds_toArray, List.set_cons_zero, List.set_cons_succ, i64_w, i32_w]
        rfl
      refine pure_ (i := 9) (N := some 36) (v := undef) (a' := ?_) #[true, true, true, true, true, true, true, true, true, true, false] rfl rfl (by kernel_rfl) (fun _ _ _ h => h) (Or.inr ⟨by rfl, rfl⟩) ?_ ?_
      rotate_left
      · simp only [Act.put, List.setIfInBounds_toArray, List.set_cons_zero, List.set_cons_succ, i64_w, i32_w]
        rfl
      refine pure_ (i := 10) (N := some 37) (v := ?_) (a' := ?_) #[true, true, true, true, true, true, true, true, true, true, true] rfl rfl (by kernel_rfl) (fun _ _ _ h => h) (Or.inl ⟨by rfl, ?_⟩) ?_ ?_
      rotate_left
      · intro w'
        go_simp
        with_reducible rfl
      rotate_left
      · simp only [Act.put, List.setIfInBounds_toArray, List.set_cons_zero, List.set_cons_succ, i64_w, i32_w]
        rfl
      refine done_ (by kernel_rfl) ?_
      have f0 := H3.out.f0
      have f1 := H3.out.f1
      have f2 := H3.out.f2
      have z0 := H3.out.z 0 (by omega)
      have z1 := H3.out.z 1 (by omega)
      have z2 := H3.out.z 2 (by omega)
      have y0 := H3.out.fr 0
      have y1 := H3.out.fr 1
      have y2 := H3.out.fr 2
      clear e1
      obtain ⟨d0, d1_, d2_⟩ := fld_set (.int .i64 (n : Int)) (.int .i64 (Q : Int)) (.int .i64 (Wf : Int)) (H3.out.z 0 (by omega)) (H3.out.z 1 (by omega)) (H3.out.z 2 (by omega))
      have HFIN := Aside0.mk (show Below w.heap.size w (((W3.setCell ⟨Bz, 0, none⟩ (.int .i64 (n : Int))).setCell ⟨Bz, 1, none⟩ (.int .i64 (Q : Int))).setCell ⟨Bz, 2, none⟩ (.int .i64 (Wf : Int))).drew from (below_set (below_set (below_set H3.out.bl H3.out.ge) H3.out.ge) H3.out.ge).drew)
      go_wp2_with fail
      exact bodyPost_ret (results_fld3 rfl _ _ Bz (n : Int) (Q : Int) (Wf : Int) (.slice none 0 0) (.bool false) rfl rfl rfl d0 d1_ d2_) rfl ⟨⟨_, _, _, rfl⟩, HFIN.out⟩
    · have e1 : decide (s < 0) = false := decide_eq_false hlt
      have e2 : decide (wrap64 (2 ^ min n 64) ≤ s) = true := by
        have h1 := HN.out
        obtain ⟨P, hP⟩ : ∃ P : Nat, P = 2 ^ n := ⟨_, rfl⟩
        have hp : P ≤ 65536 := by rw [hP]; exact Nat.pow_le_pow_right (by omega) h1.2.1
        have e4 : (2 : Int) ^ n = (P : Int) := by rw [hP]; push_cast; rfl
        rw [e4] at h1
        rw [Nat.min_eq_left (by omega), e4, wrap_id (by omega) (by omega)]
        exact decide_eq_true (h1.2.2.resolve_left hlt)
      refine start_ (n := 11) (S := (fun w' => w'.cell? ⟨Bs, 0, none⟩ = some (.int .i64 s))) (ds := []) #[false, false, false, false, false, false, false, false, false, false, false] (by kernel_rfl) rfl rfl hS0 (fun _ => ?_)
      refine pure_ (i := 0) (N := some 27) (v := ?_) (a' := ?_) #[true, false, false, false, false, false, false, false, false, false, false] rfl rfl (by kernel_rfl) (fun _ _ _ h => h) (Or.inl ⟨by rfl, ?_⟩) ?_ ?_
      rotate_left
      · intro w'
        go_simp
        with_reducible rfl
      rotate_left
      · simp only [Act.put, List.setIfInBounds_toArray, List.set_cons_zero, List.set_cons_succ, i64_w, i32_w]
        rfl
      refine pure_ (i := 1) (N := some 28) (v := ?_) (a' := ?_) #[true, true, false, false, false, false, false, false, false, false, false] rfl rfl (by kernel_rfl) (fun _ _ _ h => h) (Or.inl ⟨by rfl, ?_⟩) ?_ ?_
      rotate_left
      · intro w'
        go_simp
        with_reducible rfl
      rotate_left
      · simp only [Act.put, List.setIfInBounds_toArray, List.set_cons_zero, List.set_cons_succ, i64_w, i32_w]
        rfl
      refine take_ (i := 2) (N := some 29) (v := ?_) (a' := ?_) #[true, true, true, false, false, false, false, false, false, false, false] rfl rfl (by kernel_rfl) (fun _ _ _ h => h) (Or.inl ⟨by rfl, ?_⟩) hS0 ?_ ?_
      rotate_left
      · rintro w' k0'
        go_simp
        with_reducible rfl
      rotate_left
      · simp only [Act.put, List.setIfInBounds_toArray, List.set_cons_zero, List.set_cons_succ, i64_w, i32_w]
        rfl
      refine pure_ (i := 3) (N := some 30) (v := ?_) (a' := ?_) #[true, true, true, true, false, false, false, false, false, false, false] rfl rfl (by kernel_rfl) (fun _ _ _ h => h) (Or.inl ⟨by rfl, ?_⟩) ?_ ?_
      rotate_left
      · intro w'
        go_simp
        with_reducible rfl
      rotate_left
      · simp only [Act.put, List.setIfInBounds_toArray, List.set_cons_zero, List.set_cons_succ, i64_w, i32_w]
        rfl
      refine pure_ (i := 4) (N := some 31) (v := ?_) (a' := ?_) #[true, true, true, true, true, false, false, false, false, false, false] rfl rfl (by kernel_rfl) (fun _ _ _ h => h) (Or.inl ⟨by rfl, ?_⟩) ?_ ?_
      rotate_left
      · intro w'
        go_simp
        with_reducible rfl
      rotate_left
      · simp only [Act.put, List.setIfInBounds_toArray, List.set_cons_zero, List.set_cons_succ, i64_w, i32_w]
        rfl
      refine pure_ (i := 5) (N := some 32) (v := ?_) (a' := ?_) #[true, true, true, true, true, true, false, false, false, false, false] rfl rfl (by kernel_rfl) (fun _ _ _ h => h) (Or.inl ⟨by rfl, ?_⟩) ?_ ?_
      rotate_left
      · intro w'
        go_simp
        with_reducible rfl
      rotate_left
      · simp only [Act.put, List.setIfInBounds_toArray, List.set_cons_zero, List.set_cons_succ, i64_w, i32_w]
        rfl
      refine take_ (i := 6) (N := some 33) (v := ?_) (a' := ?_) #[true, true, true, true, true, true, true, false, false, false, false] rfl rfl (by kernel_rfl) (fun _ _ _ h => h) (Or.inl ⟨by rfl, ?_⟩) hS0 ?_ ?_
      rotate_left
      · rintro w' k0'
        go_simp
        with_reducible rfl
      rotate_left
      · simp only [Act.put, List.setIfInBounds_toArray, List.set_cons_zero, List.set_cons_succ, i64_w, i32_w]
        rfl
      refine pure_ (i := 7) (N := some 34) (v := ?_) (a' := ?_) #[true, true, true, true, true, true, true, true, false, false, false] rfl rfl (by kernel_rfl) (fun _ _ _ h => h) (Or.inl ⟨by rfl, ?_⟩) ?_ ?_
      rotate_left
      · intro w'
        go_simp
        with_reducible rfl
      rotate_left
      · simp only [Act.put, List.setIfInBounds_toArray, List.set_cons_zero, List.set_cons_succ, i64_w, i32_w]
        rfl
      refine pure_ (i := 8) (N := some 35) (v := ?_) (a' := ?_) #[true, true, true, true, true, true, true, true, true, false, false] rfl rfl (by kernel_rfl) (fun _ _ _ h => h) (Or.inl ⟨by rfl, ?_⟩) ?_ ?_
      rotate_left
      · intro w'
        go_simp
        with_reducible rfl
      rotate_left
      · simp only [Act.put, List.setIfInBounds_toArray, List.set_cons_zero, List.set_cons_succ, i64_w, i32_w]
        rfl
      refine pure_ (i := 9) (N := some 36) (v := ?_) (a' := ?_) #[true, true, true, true, true, true, true, true, true, true, false] rfl rfl (by kernel_rfl) (fun _ _ _ h => h) (Or.inl ⟨by rfl, ?_⟩) ?_ ?_
      rotate_left
      · intro w'
        go_simp
        with_reducible rfl
      rotate_left
      · simp only [Act.put, List.setIfInBounds_toArray, List.set_cons_zero, List.set_cons_succ, i64_w, i32_w]
        rfl
      refine pure_ (i := 10) (N := some 37) (v := ?_) (a' := ?_) #[true, true, true, true, true, true, true, true, true, true, true] rfl rfl (by kernel_rfl) (fun _ _ _ h => h) (Or.inl ⟨by rfl, ?_⟩) ?_ ?_
      rotate_left
      · intro w'
        go_simp
        with_reducible rfl
      rotate_left
      · simp only [Act.put, List.setIfInBounds_toArray, List.set_cons_zero, List.set_cons_succ, i64_w, i32_w]
        rfl
      refine done_ (by kernel_rfl) ?_
      have f0 := H3.out.f0
      have f1 := H3.out.f1
      have f2 := H3.out.f2
      have z0 := H3.out.z 0 (by omega)
      have z1 := H3.out.z 1 (by omega)
      have z2 := H3.out.z 2 (by omega)
      have y0 := H3.out.fr 0
      have y1 := H3.out.fr 1
      have y2 := H3.out.fr 2
      clear e1 e2
      obtain ⟨d0, d1_, d2_⟩ := fld_set (.int .i64 (n : Int)) (.int .i64 (Q : Int)) (.int .i64 (Wf : Int)) (H3.out.z 0 (by omega)) (H3.out.z 1 (by omega)) (H3.out.z 2 (by omega))
      have HFIN := Aside0.mk (show Below w.heap.size w (((W3.setCell ⟨Bz, 0, none⟩ (.int .i64 (n : Int))).setCell ⟨Bz, 1, none⟩ (.int .i64 (Q : Int))).setCell ⟨Bz, 2, none⟩ (.int .i64 (Wf : Int))).drew from (below_set (below_set (below_set H3.out.bl H3.out.ge) H3.out.ge) H3.out.ge).drew)
      go_wp2_with fail
      exact bodyPost_ret (results_fld3 rfl _ _ Bz (n : Int) (Q : Int) (Wf : Int) (.slice none 0 0) (.bool false) rfl rfl rfl d0 d1_ d2_) rfl ⟨⟨_, _, _, rfl⟩, HFIN.out⟩

end Go.Proofs.YtfpnojcbhbkfaaaDoor.P
namespace Go.Proofs.YtfpnojcbhbkfaaaDoor.P
open Go.RowKit Go.Proofs.YtfpnojcbhbkfaaaDoorW.PrintWords Go.Proofs.YtfpnojcbhbkfaaaDoorW.PrintLast Go.Proofs.YtfpnojcbhbkfaaaDoorW.PrintMore
attribute [local go_sem] max2_int min2_int max_two min_two max_three min_three max_four min_four   -- for this text's walks alone
set_option linter.unusedVariables false
set_option linter.unusedSimpArgs false

/-! wheels.Silent: where a chord's spectrum is 0 -/
def bitsL (n s : Nat) : List Nat := (List.range n).map (bitW s)
theorem bitsL_len (n s : Nat) : (bitsL n s).length = n := by unfold bitsL; simp
theorem bitsL_lt {n s q : Nat} (hq : 2 ≤ q) : ∀ x ∈ bitsL n s, x < q := fun x hx => by
  unfold bitsL at hx
  obtain ⟨y, _, rfl⟩ := List.mem_map.1 hx
  unfold bitW
  split <;> omega
theorem wheel_bits {n s q : Nat} (hq : 2 ≤ q) : wheelL n q (bitW s) = natsI (bitsL n s) := by
  unfold wheelL natsI bitsL
  rw [List.map_map]
  refine List.map_congr_left (fun k _ => ?_)
  have : bitW s k < q := by unfold bitW; split <;> omega
  rw [Nat.mod_eq_of_lt this]
  rfl
/-- the spectrum of a chord -/
def specN (n s k : Nat) : Nat := turnedV (qF n) n (wF n) (bitsL n s) k % qF n
def silN (n s : Nat) : Nat → Nat
  | 0 => 0
  | k + 1 => if specN n s k = 0 then silN n s k ||| 2 ^ k else silN n s k
theorem silN_lt (n s : Nat) : ∀ k, silN n s k < 2 ^ k
  | 0 => by simp [silN]
  | k + 1 => by
    have h := silN_lt n s k
    have h2 : 2 ^ k < 2 ^ (k + 1) := Nat.pow_lt_pow_right (by omega) (by omega)
    unfold silN
    split
    · exact Nat.or_lt_two_pow (by omega) h2
    · omega
theorem silN_bit (n s j : Nat) : ∀ k, (silN n s k).testBit j = (decide (j < k) && decide (specN n s j = 0))
  | 0 => by simp [silN]
  | k + 1 => by
    have ih := silN_bit n s j k
    unfold silN
    by_cases hz : specN n s k = 0
    · rw [if_pos hz, Nat.testBit_or, ih, Nat.testBit_two_pow]
      by_cases e : j = k
      · subst e; simp [hz]
      · have h1 : decide (k = j) = false := decide_eq_false (fun h => e h.symm)
        have h2 : decide (j < k + 1) = decide (j < k) := by rw [decide_eq_decide]; omega
        rw [h1, h2, Bool.or_false]
    · rw [if_neg hz, ih]
      by_cases e : j = k
      · subst e; simp [hz]
      · have h2 : decide (j < k + 1) = decide (j < k) := by rw [decide_eq_decide]; omega
        rw [h2]
def wheels_Silent.f (a0 a1 : Int) : Option (Int × Int) := if 2 ≤ a0 ∧ a0 ≤ 16 ∧ 0 ≤ a1 ∧ a1 < (2 : Int) ^ a0.toNat then some ((silN a0.toNat a1.toNat a0.toNat : Int), 0) else some (0, 2)
set_option maxHeartbeats 8000000 in
set_option maxRecDepth 100000 in
theorem silent_good {n s : Nat} (h2 : 2 ≤ n) (h16 : n ≤ 16) (hs : s < 2 ^ n) (w : World) :
    Calls Tryd.prog 24 #[.int .i64 (n : Int), .int .i64 (s : Int)] w fun e w' => e = .returned (.tuple #[.int .i64 (silN n s n : Int), .int .i64 0]) ∧ Below w.heap.size w w' := by
  have HF := Aside0.mk (field_at h2 h16)
  have HCH := Aside0.mk (chords_good (R := w.heap.size) h2 h16 hs (w.alloc (.cells #[.int .i64 (s : Int)] 3)) (cells_new _ _ _ _))
  have HB0 := Aside0.mk (show Below w.heap.size w (w.alloc (.cells #[.int .i64 (s : Int)] 3)) from below_alloc (Below.refl _ _) _)
  have HN := Aside0.mk (And.intro h2 h16)
  have hn16 : n ≤ 16 := h16
  obtain ⟨Q, hQ⟩ : ∃ x, qF n = x := ⟨_, rfl⟩
  obtain ⟨Wf, hWf⟩ : ∃ x, wF n = x := ⟨_, rfl⟩
  have HQ := Aside0.mk (show 2 ≤ Q ∧ Q ≤ 1000 ∧ Wf < Q ∧ qF n = Q ∧ wF n = Wf from ⟨by rw [← hQ]; have := HF.out; omega, by rw [← hQ]; have := HF.out; omega, by rw [← hQ, ← hWf]; exact HF.out.2.2.2.1, hQ, hWf⟩)
  rw [hQ, hWf] at HCH
  clear h2 h16 hs hQ hWf
  go_enter Tryd.func24, Tryd.ntmps24
  go_wp2_with fail
  refine HCH.out.mono ?_
  rintro e w1 ⟨G, c, v, rfl, hG, hR, hb⟩
  obtain ⟨A7, c7, e7⟩ := Kd.R_slice hR
  rw [wheelL_len] at e7
  subst e7
  have H1 := Aside0.mk (show w1.cell? ⟨G, 0, none⟩ = some (.slice A7 n c7) ∧ Kd.C (Kd.int .i64) w1 A7 (natsI (bitsL n s)).length (natsI (bitsL n s)) ∧ Below w.heap.size w w1 from ⟨hG, by have h := (Kd.R_reads' hR).2.2; rw [wheel_bits HQ.out.1] at h; exact h, below_step HB0.out hb⟩)
  clear hG hR hb
  go_wp2_with fail
  obtain ⟨W2, hW2⟩ : ∃ W2, (w1.alloc (.cells #[.int .i64 (n : Int), .int .i64 (Q : Int), .int .i64 (Wf : Int)] 80)) = W2 := ⟨_, rfl⟩
  obtain ⟨BF, hBF⟩ : ∃ B, w1.heap.size = B := ⟨_, rfl⟩
  have H2 := Aside0.mk (show W2.cell? ⟨G, 0, none⟩ = some (.slice A7 n c7) ∧ Kd.C (Kd.int .i64) W2 A7 (natsI (bitsL n s)).length (natsI (bitsL n s)) ∧ Below w.heap.size w W2 from by
    rw [← hW2]
    have ha : Below w1.heap.size w1 (w1.alloc (.cells #[.int .i64 (n : Int), .int .i64 (Q : Int), .int .i64 (Wf : Int)] 80)) := below_alloc (Below.refl _ _) _
    exact ⟨cell_to H1.out.1 ha, Kd.C_below H1.out.2.1 ha, below_step H1.out.2.2 ha⟩)
  have hS0 : W2.drew.cell? ⟨G, 0, none⟩ = some (.slice A7 n c7) ∧ W2.drew.cell? ⟨BF, 0, none⟩ = some (.int .i64 (n : Int)) ∧ W2.drew.cell? ⟨BF, 1, none⟩ = some (.int .i64 (Q : Int)) ∧ W2.drew.cell? ⟨BF, 2, none⟩ = some (.int .i64 (Wf : Int)) := by
    refine ⟨H2.out.1, ?_, ?_, ?_⟩
    · rw [← hW2, ← hBF]; exact cells_new _ _ _ _
    · rw [← hW2, ← hBF]; exact cells_new _ _ _ _
    · rw [← hW2, ← hBF]; exact cells_new _ _ _ _
  have hsp := spectrum_calls n Q Wf (bitsL n s) A7 c7 (by have := HN.out; omega) HN.out.2 HQ.out.1 HQ.out.2.1 HQ.out.2.2.1 (by rw [bitsL_len]; exact HN.out.2) (bitsL_lt HQ.out.1) W2.drew (Kd.C_drew H2.out.2.1)
  rw [bitsL_len] at hsp
  have HSP := Aside0.mk hsp
  rw [hW2, hBF]
  clear hW2 hBF H1 hsp
  refine start_ (n := 7) (S := (fun w' => w'.cell? ⟨G, 0, none⟩ = some (.slice A7 n c7) ∧ w'.cell? ⟨BF, 0, none⟩ = some (.int .i64 (n : Int)) ∧ w'.cell? ⟨BF, 1, none⟩ = some (.int .i64 (Q : Int)) ∧ w'.cell? ⟨BF, 2, none⟩ = some (.int .i64 (Wf : Int)))) (ds := []) #[false, false, false, false, false, false, false] (by kernel_rfl) rfl rfl hS0 (fun _ => ?_)
  refine pure_ (i := 1) (N := some 23) (v := ?_) (a' := ?_) #[false, true, false, false, false, false, false] rfl rfl (by kernel_rfl) (fun _ _ _ h => h) (Or.inl ⟨by rfl, ?_⟩) ?_ ?_
  rotate_left
  · intro w'
    go_simp
    with_reducible rfl
  rotate_left
  · simp only [Act.put, List.setIfInBounds_toArray, List.set_cons_zero, List.set_cons_succ, i64_w, i32_w]
    rfl
  refine pure_ (i := 2) (N := some 24) (v := ?_) (a' := ?_) #[false, true, true, false, false, false, false] rfl rfl (by kernel_rfl) (fun _ _ _ h => h) (Or.inl ⟨by rfl, ?_⟩) ?_ ?_
  rotate_left
  · intro w'
    go_simp
    with_reducible rfl
  rotate_left
  · simp only [Act.put, List.setIfInBounds_toArray, List.set_cons_zero, List.set_cons_succ, i64_w, i32_w]
    rfl
  refine pure_ (i := 6) (N := some 28) (v := ?_) (a' := ?_) #[false, true, true, false, false, false, true] rfl rfl (by kernel_rfl) (fun _ _ _ h => h) (Or.inl ⟨by rfl, ?_⟩) ?_ ?_
  rotate_left
  · intro w'
    go_simp
    with_reducible rfl
  rotate_left
  · simp only [Act.put, List.setIfInBounds_toArray, List.set_cons_zero, List.set_cons_succ, i64_w, i32_w]
    rfl
  refine take_ (i := 0) (N := some 22) (v := ?_) (a' := ?_) #[true, true, true, false, false, false, true] rfl rfl (by kernel_rfl) (fun _ _ _ h => h) (Or.inl ⟨by rfl, ?_⟩) hS0 ?_ ?_
  rotate_left
  · rintro w' ⟨k0', k1', k2', k3'⟩
    go_simp
    with_reducible rfl
  rotate_left
  · simp only [Act.put, List.setIfInBounds_toArray, List.set_cons_zero, List.set_cons_succ, i64_w, i32_w]
    rfl
  refine take_ (i := 3) (N := some 25) (v := ?_) (a' := ?_) #[true, true, true, true, false, false, true] rfl rfl (by kernel_rfl) (fun _ _ _ h => h) (Or.inl ⟨by rfl, ?_⟩) hS0 ?_ ?_
  rotate_left
  · rintro w' ⟨k0', k1', k2', k3'⟩
    go_simp
    with_reducible rfl
  rotate_left
  · simp only [Act.put, List.setIfInBounds_toArray, List.set_cons_zero, List.set_cons_succ, i64_w, i32_w]
    rfl
  refine one_ (i := 4) (N := some 26) #[true, true, true, true, true, false, true] rfl rfl (by kernel_rfl) (by decide) (fun K hK => ?_)
  refine goes_ Tryd.func62 (by kernel_rfl) rfl #[.agg #[.int .i64 (n : Int), .int .i64 (Q : Int), .int .i64 (Wf : Int)], .slice A7 n c7] (by rfl) rfl rfl (by simp only [List.map_toArray, List.map_cons, List.map_nil]; rfl) ?_
  refine HSP.out.mono ?_
  rintro e w7 ⟨v9, rfl, hR9, hb9⟩
  obtain ⟨A9, c9, e9⟩ := Kd.R_slice hR9
  rw [wheelL_len] at e9
  subst e9
  refine ⟨_, rfl, ?_⟩
  have H9 := Aside0.mk (show Kd.C (Kd.int .i64) w7 A9 n (wheelL n Q (turnedV Q n Wf (bitsL n s))) ∧ Below w.heap.size w w7 from ⟨by have h := (Kd.R_reads' hR9).2.2; rw [wheelL_len] at h; exact h, below_step H2.out.2.2.drew hb9⟩)
  have hS7 := (show w7.cell? ⟨G, 0, none⟩ = some (.slice A7 n c7) ∧ w7.cell? ⟨BF, 0, none⟩ = some (.int .i64 (n : Int)) ∧ w7.cell? ⟨BF, 1, none⟩ = some (.int .i64 (Q : Int)) ∧ w7.cell? ⟨BF, 2, none⟩ = some (.int .i64 (Wf : Int)) from ⟨cell_to hS0.1 hb9, cell_to hS0.2.1 hb9, cell_to hS0.2.2.1 hb9, cell_to hS0.2.2.2 hb9⟩)
  clear hR9 hb9
  refine hK.out _ _ hS7 (fun _ => ?_)
  clear hK K
  refine norm_ (a' := ?_) ?_ ?_
  rotate_left
  · show Act.put _ (some 26) _ = _
    simp only [Act.put, List.setIfInBounds_toArray, List.set_cons_zero, List.set_cons_succ, i64_w, i32_w]
    rfl
  refine pure_ (i := 5) (N := some 27) (v := ?_) (a' := ?_) #[true, true, true, true, true, true, true] rfl rfl (by kernel_rfl) (fun _ _ _ h => h) (Or.inl ⟨by rfl, ?_⟩) ?_ ?_
  rotate_left
  · intro w'
    go_simp
    with_reducible rfl
  rotate_left
  · simp only [Act.put, List.setIfInBounds_toArray, List.set_cons_zero, List.set_cons_succ, i64_w, i32_w]
    rfl
  refine done_ (by kernel_rfl) ?_
  clear hS0 hS7
  have hnz : (0 : Int) ≤ (n : Int) := by omega
  go_wp2_with fail
  go_loopg [9, 28] n (fun gg s9 s28 wr => ∃ k : Nat, s28 = .int .i64 (k : Int) ∧ s9 = .int .i64 (silN n s k : Int) ∧ k + gg = n ∧ Aside0 (Kd.C (Kd.int .i64) wr A9 n (wheelL n Q (turnedV Q n Wf (bitsL n s))) ∧ Below w.heap.size w wr))
  case atStart => exact ⟨0, rfl, rfl, by omega, H9⟩
  case round =>
    obtain ⟨k, rfl, rfl, hkg, HK⟩ := hrel
    by_cases hk : k < n
    · have hkz : (k : Int) < (n : Int) := by omega
      have hk0 : (0 : Int) ≤ (k : Int) := by omega
      obtain ⟨ad, ead, hcell⟩ := Kd.at_int HK.out.1 (k : Int) hk0 hkz
      have hrd : rd (wheelL n Q (turnedV Q n Wf (bitsL n s))) (k : Int) = (specN n s k : Int) := by
        rw [rd_get (by rw [wheelL_len]; exact hk)]
        unfold specN
        rw [HQ.out.2.2.2.1, HQ.out.2.2.2.2]
        simp [wheelL]
      rw [hrd, Int.toNat_natCast] at hcell
      cases ead
      obtain ⟨x, hx⟩ : ∃ x, specN n s k = x := ⟨_, rfl⟩
      obtain ⟨o, ho⟩ : ∃ o, silN n s k = o := ⟨_, rfl⟩
      rw [hx] at hcell
      rw [ho]
      have HX := Aside0.mk (And.intro hx ho)
      clear hrd hx ho
      by_cases hz : x = 0
      · subst hz
        have hor : Go.bits .or .i64 (o : Int) (wrap64 (2 ^ k)) = ((o ||| 2 ^ k : Nat) : Int) := by
          have h1 : o < 2 ^ 16 := by rw [← HX.out.2]; exact Nat.lt_of_lt_of_le (silN_lt n s k) (Nat.pow_le_pow_right (by omega) (by omega))
          have h2 : 2 ^ k ≤ 2 ^ 16 := Nat.pow_le_pow_right (by omega) (by omega)
          obtain ⟨P, hP⟩ : ∃ P : Nat, P = 2 ^ k := ⟨_, rfl⟩
          have e : (2 : Int) ^ k = (P : Int) := by rw [hP]; push_cast; rfl
          rw [← hP] at h2 ⊢
          rw [e, wrap_id (by omega) (by omega)]
          exact or_i64 (by omega) (by omega)
        go_wp2_with fail
        go_roundg (n - (k + 1))
        case measure => omega
        case rel =>
          refine ⟨k + 1, by go_num, ?_, by omega, HK⟩
          show _ = Value.int .i64 ((if specN n s k = 0 then silN n s k ||| 2 ^ k else silN n s k : Nat) : Int)
          rw [HX.out.1, if_pos rfl, HX.out.2, ← hor]
      · have hzz : ¬ (x : Int) = 0 := by omega
        go_wp2_with fail
        go_roundg (n - (k + 1))
        case measure => omega
        case rel =>
          refine ⟨k + 1, by go_num, ?_, by omega, HK⟩
          show _ = Value.int .i64 ((if specN n s k = 0 then silN n s k ||| 2 ^ k else silN n s k : Nat) : Int)
          rw [HX.out.1, if_neg hz, HX.out.2]
    · have hkz : ¬ (k : Int) < (n : Int) := by omega
      have hkn : k = n := by omega
      subst hkn
      go_wp2_with fail
      exact bodyPost_ret (results_tmp2 rfl _ _ _) rfl ⟨rfl, HK.out.2⟩
set_option maxHeartbeats 8000000 in
set_option maxRecDepth 100000 in
theorem silent_bad (a s : Int) (h : ¬ (2 ≤ a ∧ a ≤ 16 ∧ 0 ≤ s ∧ s < (2 : Int) ^ a.toNat)) (w : World) : Calls Tryd.prog 24 #[.int .i64 a, .int .i64 s] w fun e w' => e = .returned (.tuple #[.int .i64 0, .int .i64 2]) ∧ Below w.heap.size w w' := by
  have HCH := Aside0.mk (show Calls Tryd.prog 61 #[.int .i64 a, .slice (some ⟨w.heap.size, 0, none⟩) 1 1] (w.alloc (.cells #[.int .i64 s] 3)) (fun e w' => (∃ x y z : Int, e = .returned (.tuple #[.agg #[.int .i64 x, .int .i64 y, .int .i64 z], .slice none 0 0, .bool false])) ∧ Below (w.alloc (.cells #[.int .i64 s] 3)).heap.size (w.alloc (.cells #[.int .i64 s] 3)) w') from by
    by_cases hn : a < 2 ∨ a > 16
    · exact chords_none hn _ (cells_new _ _ _ _)
    · obtain ⟨n, rfl⟩ : ∃ n : Nat, a = (n : Int) := ⟨a.toNat, by omega⟩
      rw [Int.toNat_natCast] at h
      refine chords_far (by omega) (by omega) ?_ _ (cells_new _ _ _ _)
      by_cases hs : s < 0
      · exact .inl hs
      · right
        refine Int.not_lt.1 (fun hlt => h ⟨by omega, by omega, by omega, hlt⟩))
  have HB0 := Aside0.mk (show Below w.heap.size w (w.alloc (.cells #[.int .i64 s] 3)) from below_alloc (Below.refl _ _) _)
  clear h
  go_enter Tryd.func24, Tryd.ntmps24
  go_wp2_with fail
  refine HCH.out.mono ?_
  rintro e w1 ⟨⟨x, y, z, rfl⟩, hb⟩
  have H1 := Aside0.mk (show Below w.heap.size w (w1.alloc (.cells #[.int .i64 x, .int .i64 y, .int .i64 z] 80)) from below_alloc (below_step HB0.out hb) _)
  clear hb
  go_wp2_with fail
  exact bodyPost_ret (results_tmp2 rfl _ _ _) rfl ⟨rfl, H1.out⟩
theorem wheels_Silent.calls (a0 a1 r1 r2 : Int) (w : World) (h : wheels_Silent.f a0 a1 = some (r1, r2)) :
    Calls Tryd.prog 24 #[.int .i64 a0, .int .i64 a1] w fun e w' => e = .returned (.tuple #[.int .i64 r1, .int .i64 r2]) ∧ Below w.heap.size w w' := by
  unfold wheels_Silent.f at h
  by_cases hd : 2 ≤ a0 ∧ a0 ≤ 16 ∧ 0 ≤ a1 ∧ a1 < (2 : Int) ^ a0.toNat
  · rw [if_pos hd] at h
    injection h with h
    injection h with e1 e2
    subst e1
    subst e2
    obtain ⟨n, rfl⟩ : ∃ n : Nat, a0 = (n : Int) := ⟨a0.toNat, by omega⟩
    obtain ⟨s, rfl⟩ : ∃ s : Nat, a1 = (s : Int) := ⟨a1.toNat, by omega⟩
    rw [Int.toNat_natCast] at hd ⊢
    rw [Int.toNat_natCast]
    exact silent_good (by omega) (by omega) (by exact_mod_cast hd.2.2.2) w
  · rw [if_neg hd] at h
    injection h with h
    injection h with e1 e2
    subst e1
    subst e2
    exact silent_bad a0 a1 hd w
def wheels_Spectrum.f (a0 : Int) (l1 : List Int) : Option (List Int × Int) := if 2 ≤ a0 ∧ a0 ≤ 16 ∧ l1.length = a0.toNat ∧ ∀ x ∈ l1, 0 ≤ x ∧ x < (qF a0.toNat : Int) then some (wheelL a0.toNat (qF a0.toNat) (turnedV (qF a0.toNat) a0.toNat (wF a0.toNat) (l1.map Int.toNat)), 0) else none
theorem natsI_toNat {l : List Int} (h : ∀ x ∈ l, 0 ≤ x) : natsI (l.map Int.toNat) = l := by
  unfold natsI
  rw [List.map_map]
  conv => rhs; rw [← List.map_id l]
  refine List.map_congr_left (fun x hx => ?_)
  have := h x hx
  show ((x.toNat : Nat) : Int) = x
  omega
set_option maxHeartbeats 8000000 in
set_option maxRecDepth 100000 in
theorem spectrum2_calls {n : Nat} {l : List Nat} {A : Option Addr} {c : Nat} (h2 : 2 ≤ n) (h16 : n ≤ 16) (hl : l.length = n) (hlq : ∀ x ∈ l, x < qF n) (w : World) (hr : Kd.C (Kd.int .i64) w A (natsI l).length (natsI l)) (hc : l.length ≤ c) :
    Calls Tryd.prog 54 #[.int .i64 (n : Int), .slice A l.length c] w fun e w' => ∃ v, e = .returned (.tuple #[v, .int .i64 0]) ∧ Kd.R (Kd.int .i64) 3 w' w.heap.size (fun _ => True) v (wheelL n (qF n) (turnedV (qF n) n (wF n) l)) ∧ Below w.heap.size w w' := by
  have HF := Aside0.mk (field_at h2 h16)
  have ha : Below w.heap.size w (w.alloc (.cells #[.slice A l.length c] 22)) := below_alloc (Below.refl _ _) _
  have hcell := cells_new w #[.slice A l.length c] 22 0
  have HRD := Aside0.mk (read_good h2 h16 (.slice (some ⟨w.heap.size, 0, none⟩) 1 1) (w.alloc (.cells #[.slice A l.length c] 22)) (fun Bn BF V hV hb => containsR _ _ _ _ (indexR_one _ _ w.heap.size (.slice A l.length c) V (fun args W => enters_ Tryd.func109 (by kernel_rfl) rfl args W) (cell_to hcell hb) (fun V2 hb2 => read1_calls (by omega) hl hlq V2 (hV.to hb2) (Kd.C_below (Kd.C_below hr ha) (below_step hb hb2)) hc))))
  have HB0 := Aside0.mk ha
  have HR := Aside0.mk hr
  have HSP := Aside0.mk (fun (V : World) (hb : Below w.heap.size w V) => spectrum_calls n (qF n) (wF n) l A c (by omega) h16 (by have := HF.out; omega) (by have := HF.out; omega) HF.out.2.2.2.1 (by omega) hlq V (Kd.C_below HR.out hb))
  rw [hl] at HRD HSP HB0 ⊢
  obtain ⟨Q, hQ⟩ : ∃ x, qF n = x := ⟨_, rfl⟩
  obtain ⟨Wf, hWf⟩ : ∃ x, wF n = x := ⟨_, rfl⟩
  simp only [hQ, hWf] at HRD HSP ⊢
  clear h2 h16 hlq hr ha hcell hl hQ hWf
  go_enter Tryd.func54, Tryd.ntmps54
  go_wp2_with fail
  refine HRD.out.mono ?_
  rintro e w1 ⟨rfl, hb1⟩
  have H1 := Aside0.mk (show Below w.heap.size w (w1.alloc (.cells #[.int .i64 (n : Int), .int .i64 (Q : Int), .int .i64 (Wf : Int)] 80)) from below_alloc (below_step HB0.out hb1) _)
  clear hb1
  go_wp2_with fail
  refine (HSP.out _ H1.out).mono ?_
  rintro e w5 ⟨v, rfl, hR5, hb5⟩
  have H5 := Aside0.mk (And.intro (Kd.R_lower hR5 (below_size H1.out)) (below_step H1.out hb5))
  clear hR5 hb5
  go_wp2_with fail
  exact bodyPost_ret (results_tmp2 rfl _ _ _) rfl ⟨v, rfl, H5.out.1, H5.out.2⟩
theorem wheels_Spectrum.calls (a0 : Int) (A1 : Option Addr) (c1 : Nat) (l1 : List Int) (r1 : List Int) (r2 : Int) (w : World) (hr1 : Kd.C (Kd.int .i64) w A1 l1.length l1) (hc1 : l1.length ≤ c1) (h : wheels_Spectrum.f a0 l1 = some (r1, r2)) :
    Calls Tryd.prog 54 #[.int .i64 a0, .slice A1 l1.length c1] w fun e w' => ∃ v0_ : Value, e = .returned (.tuple #[v0_, .int .i64 r2]) ∧ Kd.R (Kd.int .i64) 3 w' w.heap.size (fun _ => True) v0_ r1 ∧ Below w.heap.size w w' := by
  unfold wheels_Spectrum.f at h
  by_cases hd : 2 ≤ a0 ∧ a0 ≤ 16 ∧ l1.length = a0.toNat ∧ ∀ x ∈ l1, 0 ≤ x ∧ x < (qF a0.toNat : Int)
  · rw [if_pos hd] at h
    injection h with h
    injection h with e1 e2
    subst e1
    subst e2
    obtain ⟨n, rfl⟩ : ∃ n : Nat, a0 = (n : Int) := ⟨a0.toNat, by omega⟩
    rw [Int.toNat_natCast] at hd ⊢
    have hn := natsI_toNat (fun x hx => (hd.2.2.2 x hx).1)
    have hl : (l1.map Int.toNat).length = l1.length := List.length_map _
    have := spectrum2_calls (n := n) (l := l1.map Int.toNat) (A := A1) (c := c1) (by omega) (by omega) (by rw [hl]; exact hd.2.2.1) (fun x hx => by
      obtain ⟨y, hy, rfl⟩ := List.mem_map.1 hx
      have := hd.2.2.2 y hy
      omega) w (by rw [hn]; exact hr1) (by rw [hl]; exact hc1)
    rw [hl] at this
    exact this
  · rw [if_neg hd] at h
    cases h

end Go.Proofs.YtfpnojcbhbkfaaaDoor.P
