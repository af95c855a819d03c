/- A part of a proof that a law's Go function returns true for every input, laid by this session's program mp.py (which drives the kit's print). Conditions: as each theorem states them. -/
import Derived.StillTailTactics
import Derived.Laws.EntriesVeiled
import Derived.Shelf.Abstract
import Derived.RegionTactic
import Derived.Deep.QuietTactic
import Derived.Maps.AppendAt
import Derived.Test.YtfpnojcbhbkfaaaDoorCTopImages1
import Derived.Test.YtfpnojcbhbkfaaaDoorCTopImages2
namespace Go.Proofs.YtfpnojcbhbkfaaaDoor.P
open Go.RowKit Go.Proofs.YtfpnojcbhbkfaaaDoorW.PrintWords Go.Proofs.YtfpnojcbhbkfaaaDoorW.PrintLast Go.Proofs.YtfpnojcbhbkfaaaDoorW.PrintMore
attribute [local go_sem] max2_int min2_int max_two min_two max_three min_three max_four min_four   -- for this text's walks alone
set_option linter.unusedVariables false
set_option linter.unusedSimpArgs false

/-! wheels.chords: the wheel of one chord -/
def bitW (s k : Nat) : Nat := if s.testBit k then 1 else 0
set_option maxHeartbeats 8000000 in
set_option maxRecDepth 100000 in
theorem chords1_calls (n s Bs : Nat) (hn : n ≤ 16) (hs : s < 2 ^ n) (w : World) (h : w.cell? ⟨Bs, 0, none⟩ = some (.int .i64 (s : Int))) (k : Nat) (hk : k < n) :
    Calls Tryd.prog 94 #[.int .i64 (k : Int), .pointer (some ⟨Bs, 0, none⟩)] w fun e w' => e = .returned (.int .i64 (bitW s k : Int)) ∧ Below w.heap.size w w' := by
  have hb : Go.bits .and .i64 ((s : Int) / 2 ^ k) 1 = (bitW s k : Int) := by
    have h24 : 2 ^ n ≤ 2 ^ 16 := Nat.pow_le_pow_right (by omega) hn
    have h := bit_i64 (a := s) (x := k) (by omega) (by omega)
    rw [shr_i64 _ _ (by omega)] at h
    have e : ((s / 2 ^ k : Nat) : Int) = (s : Int) / 2 ^ k := by push_cast; rfl
    rw [e] at h
    rw [h]
    unfold bitW
    cases s.testBit k <;> rfl
  have hk64 : k ≤ 64 := by omega
  have hk64z : (k : Int) ≤ 64 := by omega
  go_enter Tryd.func94, Tryd.ntmps94
  go_wp2
  go_ret
  exact ⟨by rw [← hb]; rfl, Below.refl _ _⟩
set_option maxHeartbeats 8000000 in
set_option maxRecDepth 100000 in
theorem spectrum_calls (n q f : Nat) (l : List Nat) (A : Option Addr) (c : Nat) (hn1 : 1 ≤ n) (hn : n ≤ 16) (hq : 2 ≤ q) (hq2 : q ≤ 1000) (hu : f < q) (hl : l.length ≤ 16) (hlq : ∀ x ∈ l, x < q) (w : World) (hr : Kd.C (Kd.int .i64) w A (natsI l).length (natsI l)) :
    Calls Tryd.prog 62 #[.agg #[.int .i64 (n : Int), .int .i64 (q : Int), .int .i64 (f : Int)], .slice A l.length c] w fun e w' => ∃ v, e = .returned v ∧ Kd.R (Kd.int .i64) 3 w' w.heap.size (fun _ => True) v (wheelL n q (turnedV q n f l)) ∧ Below w.heap.size w w' := by
  have HT := Aside0.mk (turned_calls n q f f l A c hn1 hn hq hq2 hu hl hlq (w.alloc (.cells #[.int .i64 (n : Int), .int .i64 (q : Int), .int .i64 (f : Int)] 80)) (Kd.C_alloc hr _))
  have HB := Aside0.mk (show Below w.heap.size w (w.alloc (.cells #[.int .i64 (n : Int), .int .i64 (q : Int), .int .i64 (f : Int)] 80)) from below_alloc (Below.refl _ _) _)
  clear hr hlq
  go_enter Tryd.func62, Tryd.ntmps62
  go_wp2_with fail
  refine HT.out.mono ?_
  rintro e w7 ⟨v, rfl, hr7, hb7⟩
  have HX := Aside0.mk (And.intro (Kd.R_lower hr7 (below_size HB.out)) (below_step HB.out hb7))
  clear hr7 hb7
  go_wp2
  go_ret
  exact ⟨v, rfl, HX.out.1, HX.out.2⟩
theorem infoRow9 : (Tryd.prog.info? 22).map (fun i => (i.zero, i.size, i.bytes)) = some (some (.slice none 0 0), 1, 24) := by kernel_rfl
theorem own_one9 {w : World} {base : Nat} {e : TypeId} {v u : Value} (h : w.ownsRow base e 1 v 1 [u]) : ∃ g c, v = .slice (some ⟨g, 0, none⟩) 1 c ∧ w.cell? ⟨g, 0, none⟩ = some u ∧ base ≤ g ∧ g < w.heap.size := by
  have hc : ∀ g, v.ownBlock = some g → ∀ j u', [u][j]? = some u' → w.cell? ((⟨g, 0, none⟩ : Addr).add j) = some u' := fun g hg => h.cells hg
  have hbs : ∀ g, v.ownBlock = some g → base ≤ g := fun g hg => own_base h g hg
  obtain ⟨_, h2⟩ := h
  rcases h2 with ⟨_, h0⟩ | ⟨g, cap, cur, e1, h3⟩
  · omega
  · have := hc g (by rw [e1]; rfl) 0 u rfl
    exact ⟨g, cap, e1, this, hbs g (by rw [e1]; rfl), World.block_lt_of_cell? w _ this⟩
/-- append of one row to none -/
theorem app_row {rest : List Oper} {ops : Array Oper} {o : Oper} {a : Act} {Q : Exit → Act → World → Prop} {W : World} (u : Value) (hu : u.oneCell' = true) (hgd : o.guard = none) (s x : Operand) (t' : TypeId)
    (ho : o.op = .call { callee := .builtin .append, args := #[s, x], argTypes := #[81, 81] }) (hs : a.eval s = .slice none 0 0) (hx : a.eval x = .slice (some ⟨W.heap.size, 0, none⟩) 1 1)
    (h : ∀ G c w1, w1.cell? ⟨G, 0, none⟩ = some u → W.heap.size ≤ G → Below W.heap.size W w1 → wpList Tryd.prog ops Q rest (a.put o.dst (.slice (some ⟨G, 0, none⟩) 1 c)) w1) :
    wpList Tryd.prog ops Q (o :: rest) a (W.alloc (.cells #[u] t')) := by
  obtain ⟨i0, hi, hzz⟩ := Option.map_eq_some_iff.1 infoRow9
  simp only [Prod.mk.injEq] at hzz
  obtain ⟨hz0, hz1, hz2⟩ := hzz
  have hnews : ∀ j u', ([u] : List Value)[j]? = some u' → (W.alloc (.cells #[u] t')).cell? ((⟨W.heap.size, 0, none⟩ : Addr).add j) = some u' := cell_one_new W u t'
  have hsz : (W.alloc (.cells #[u] t')).heap.size = W.heap.size + 1 := by simp
  refine wpList_plain hgd fun K hK => ?_
  obtain ⟨v', w', hr, h2, h3, h4, h5⟩ := run_append_own_at (P := Tryd.prog) (w := W.alloc (.cells #[u] t')) W.heap.size 81 o.type 22 i0 (.slice none 0 0) 1 24 Tryd.underlying81 hi hz0 hz1 hz2 rfl (by omega) (.slice none 0 0) 0 [] (World.ownsRow_nil _ _ _ _) ⟨W.heap.size, 0, none⟩ 1 1 [u] (by simp) hnews (fun u' hu' => by rw [List.mem_singleton.1 hu']; exact hu) (by simp only [maxLen]; omega) (by omega) (by rw [hsz]; omega)
  simp only [List.nil_append, Nat.zero_add] at h2
  obtain ⟨G, c, rfl, hG, hge, _⟩ := own_one9 h2
  have hb : Below W.heap.size W w' := (below_alloc (Below.refl _ _) _).grown h3 (by rw [hsz]; omega) (fun k e => by cases e)
  unfold Oper.wp execOp
  simp only [ho, resolve, invoke, builtin, Sem.run_bind, Sem.run_pure, Result.andThen_ok, List.map_toArray, List.map_cons, List.map_nil, hs, hx, hr]
  exact hK _ _ (h G c w' hG hge hb)
structure ChSt (n q f : Nat) (s : Int) (R Bz BF : Nat) (w W : World) : Prop where
  bl : Below w.heap.size w W
  ge : w.heap.size ≤ Bz
  r0 : W.cell? ⟨R, 0, none⟩ = some (.int .i64 s)
  f0 : W.cell? ⟨BF, 0, none⟩ = some (.int .i64 (n : Int))
  f1 : W.cell? ⟨BF, 1, none⟩ = some (.int .i64 (q : Int))
  f2 : W.cell? ⟨BF, 2, none⟩ = some (.int .i64 (f : Int))
  z : ∀ i, i < 3 → W.cell? ⟨Bz, i, none⟩ = some (.int .i64 0)
  fr : ∀ i, W.frozen? ⟨Bz, i, none⟩ = false
theorem ChSt.to {n q f : Nat} {s : Int} {R Bz BF : Nat} {w W V : World} (h : ChSt n q f s R Bz BF w W) (hb : Below W.heap.size W V) : ChSt n q f s R Bz BF w V :=
  ⟨below_step h.bl hb, h.ge, cell_to h.r0 hb, cell_to h.f0 hb, cell_to h.f1 hb, cell_to h.f2 hb, fun i hi => cell_to (h.z i hi) hb, fun i => frz_to (h.z 0 (by omega)) (h.fr i) hb⟩
theorem chSt_new {n q f : Nat} {s : Int} {R : Nat} {w w1 : World} (hc : w.cell? ⟨R, 0, none⟩ = some (.int .i64 s)) (hb : Below (w.alloc (.cells #[.int .i64 0, .int .i64 0, .int .i64 0] 80)).heap.size (w.alloc (.cells #[.int .i64 0, .int .i64 0, .int .i64 0] 80)) w1) :
    ChSt n q f s R w.heap.size w1.heap.size w (w1.alloc (.cells #[.int .i64 (n : Int), .int .i64 (q : Int), .int .i64 (f : Int)] 80)) := by
  have ha : ∀ (W : World) (o : Obj), Below W.heap.size W (W.alloc o) := fun W o => below_alloc (Below.refl _ _) o
  have c2 := fun i => cells_new w #[.int .i64 0, .int .i64 0, .int .i64 0] 80 i
  have c3 := fun i => cells_new w1 #[.int .i64 (n : Int), .int .i64 (q : Int), .int .i64 (f : Int)] 80 i
  have hz : ∀ i, i < 3 → (w.alloc (.cells #[.int .i64 0, .int .i64 0, .int .i64 0] 80)).cell? ⟨w.heap.size, i, none⟩ = some (.int .i64 0) := fun i hi => by
    rw [c2 i]
    rcases i with _ | _ | _ | i
    · rfl
    · rfl
    · rfl
    · omega
  refine ⟨below_step (below_step (ha _ _) hb) (ha _ _), Nat.le_refl _, cell_to (cell_to (cell_to hc (ha _ _)) hb) (ha _ _), c3 0, c3 1, c3 2, fun i hi => cell_to (cell_to (hz i hi) hb) (ha _ _), fun i => frz_to (cell_to (hz 0 (by omega)) hb) (frz_to (hz 0 (by omega)) (frz_new _ _ _ _) hb) (ha _ _)⟩
set_option maxHeartbeats 8000000 in
set_option maxRecDepth 100000 in
theorem chords_good {n s R : Nat} (h2 : 2 ≤ n) (h16 : n ≤ 16) (hs : s < 2 ^ n) (w : World) (hc : w.cell? ⟨R, 0, none⟩ = some (.int .i64 (s : Int))) :
    Calls Tryd.prog 61 #[.int .i64 (n : Int), .slice (some ⟨R, 0, none⟩) 1 1] w fun e w' => ∃ G c v, e = .returned (.tuple #[.agg #[.int .i64 (n : Int), .int .i64 (qF n : Int), .int .i64 (wF n : Int)], .slice (some ⟨G, 0, none⟩) 1 c, .bool true]) ∧
      w'.cell? ⟨G, 0, none⟩ = some v ∧ Kd.R (Kd.int .i64) 3 w' w.heap.size (fun _ => True) v (wheelL n (qF n) (bitW s)) ∧ Below w.heap.size w w' := by
  have HF := Aside0.mk (field_at h2 h16)
  have HRD := Aside0.mk (fun (V : World) => read_good h2 h16 (.slice none 0 0) V (fun Bn BF V' _ _ => containsR _ _ _ _ (indexR_nil _ _ _)))
  have HN := Aside0.mk (show 2 ≤ n ∧ n ≤ 16 ∧ s < 2 ^ n from ⟨h2, h16, hs⟩)
  clear h2 h16 hs
  go_enter Tryd.func61, Tryd.ntmps61
  go_wp2_with fail
  refine (HRD.out _).mono ?_
  rintro e w1 ⟨rfl, hb1⟩
  obtain ⟨Q, hQ⟩ : ∃ x, qF n = x := ⟨_, rfl⟩
  obtain ⟨Wf, hWf⟩ : ∃ x, wF n = x := ⟨_, rfl⟩
  have HI := Aside0.mk (chSt_new (n := n) (q := Q) (f := Wf) (s := s) hc hb1)
  have HQ := Aside0.mk (And.intro hQ hWf)
  have hnz : ¬ (n : Int) = 0 := by have := HN.out.1; omega
  have hnzn : ¬ n = 0 := by have := HN.out.1; omega
  simp only [hQ, hWf]
  clear hQ hWf hc hb1
  go_wp2_with fail
  obtain ⟨W2, hW2⟩ : ∃ W2, (w1.alloc (.cells #[.int .i64 (n : Int), .int .i64 (Q : Int), .int .i64 (Wf : Int)] 80)) = W2 := ⟨_, rfl⟩
  obtain ⟨Bz, hBz⟩ : ∃ B, w.heap.size = B := ⟨_, rfl⟩
  obtain ⟨BF, hBF⟩ : ∃ B, w1.heap.size = B := ⟨_, rfl⟩
  have HI2 := Aside0.mk (show ChSt n Q Wf s R Bz BF w W2 by rw [← hW2, ← hBz, ← hBF]; exact HI.out)
  have HBZ := Aside0.mk hBz
  rw [hW2, hBz, hBF]
  clear hW2 hBz hBF HI
  go_loopg [10, 23] 2 (fun gg s10 s23 wr => ∃ k : Nat, s23 = .int .i64 (k : Int) ∧ k + gg = 2 ∧ Aside0 (ChSt n Q Wf s R Bz BF w wr) ∧ ((k = 0 ∧ s10 = .slice none 0 0) ∨ (k = 1 ∧ ∃ (G c : Nat) (v : Value), s10 = .slice (some ⟨G, 0, none⟩) 1 c ∧ Aside0 (wr.cell? ⟨G, 0, none⟩ = some v ∧ w.heap.size < G ∧ Kd.R (Kd.int .i64) 3 wr (Bz + 1) (fun _ => True) v (wheelL n Q (bitW s))))))
  case atStart => exact ⟨0, rfl, rfl, HI2, .inl ⟨rfl, rfl⟩⟩
  case round =>
    obtain ⟨k, rfl, hkg, HS, hk⟩ := hrel
    rcases hk with ⟨rfl, rfl⟩ | ⟨rfl, G, c, v, rfl, HG⟩
    · have r0 := HS.out.r0
      have f0 := HS.out.f0
      have f1 := HS.out.f1
      have f2 := HS.out.f2
      have hmf : ∀ (fn : Fn) (first cap : Array Value) (w : World), (Instr.makeFunc fn first cap).run Tryd.prog w = .ok (.func fn first cap) w := fun _ _ _ _ => rfl
      have hs0 : ¬ (s : Int) < 0 := by omega
      have hshl : shl .i64 1 (n : Int) = ((2 ^ n : Nat) : Int) := by rw [shl1_i64 (by have := HN.out; omega)]
      have hn0 : (0 : Int) ≤ (n : Int) := by omega
      go_wp2_with fail
      obtain ⟨W3, hW3⟩ : ∃ W3, (wr.alloc (.cells #[.int .i64 (s : Int)] 3)) = W3 := ⟨_, rfl⟩
      obtain ⟨Bs, hBs⟩ : ∃ B, wr.heap.size = B := ⟨_, rfl⟩
      have hS0 : W3.drew.cell? ⟨Bs, 0, none⟩ = some (.int .i64 (s : Int)) := by rw [← hW3, ← hBs]; exact cells_new _ _ _ _
      have H3 := Aside0.mk (show ChSt n Q Wf s R Bz BF w W3 by rw [← hW3]; exact HS.out.to (below_alloc (Below.refl _ _) _))
      rw [hW3, hBs]
      clear hW3 hBs r0 f0 f1 f2 HS
      refine start_ (n := 11) (S := (fun w' => w'.cell? ⟨Bs, 0, none⟩ = some (.int .i64 (s : Int)))) (ds := []) #[false, false, false, false, false, false, false, false, false, false, false] (by kernel_rfl) rfl rfl hS0 (fun _ => ?_)
      refine pure_ (i := 0) (N := some 27) (v := ?_) (a' := ?_) #[true, false, false, false, false, false, false, false, false, false, false] rfl rfl (by kernel_rfl) (fun _ _ _ h => h) (Or.inl ⟨by rfl, ?_⟩) ?_ ?_
      rotate_left
      · intro w'
        go_simp
        with_reducible rfl
      rotate_left
      · simp only [Act.put, List.setIfInBounds_toArray, List.set_cons_zero, List.set_cons_succ, i64_w, i32_w]
        rfl
      refine pure_ (i := 1) (N := some 28) (v := ?_) (a' := ?_) #[true, true, false, false, false, false, false, false, false, false, false] rfl rfl (by kernel_rfl) (fun _ _ _ h => h) (Or.inl ⟨by rfl, ?_⟩) ?_ ?_
      rotate_left
      · intro w'
        go_simp
        with_reducible rfl
      rotate_left
      · simp only [Act.put, List.setIfInBounds_toArray, List.set_cons_zero, List.set_cons_succ, i64_w, i32_w]
        rfl
      refine take_ (i := 2) (N := some 29) (v := ?_) (a' := ?_) #[true, true, true, false, false, false, false, false, false, false, false] rfl rfl (by kernel_rfl) (fun _ _ _ h => h) (Or.inl ⟨by rfl, ?_⟩) hS0 ?_ ?_
      rotate_left
      · rintro w' k0'
        go_simp
        with_reducible rfl
      rotate_left
      · simp only [Act.put, List.setIfInBounds_toArray, List.set_cons_zero, List.set_cons_succ, i64_w, i32_w]
        rfl
      refine pure_ (i := 3) (N := some 30) (v := ?_) (a' := ?_) #[true, true, true, true, false, false, false, false, false, false, false] rfl rfl (by kernel_rfl) (fun _ _ _ h => h) (Or.inl ⟨by rfl, ?_⟩) ?_ ?_
      rotate_left
      · intro w'
        go_simp
        with_reducible rfl
      rotate_left
      · simp only [Act.put, List.setIfInBounds_toArray, List.set_cons_zero, List.set_cons_succ, i64_w, i32_w]
        rfl
      refine pure_ (i := 4) (N := some 31) (v := ?_) (a' := ?_) #[true, true, true, true, true, false, false, false, false, false, false] rfl rfl (by kernel_rfl) (fun _ _ _ h => h) (Or.inl ⟨by rfl, ?_⟩) ?_ ?_
      rotate_left
      · intro w'
        go_simp
        with_reducible rfl
      rotate_left
      · simp only [Act.put, List.setIfInBounds_toArray, List.set_cons_zero, List.set_cons_succ, i64_w, i32_w]
        rfl
      refine pure_ (i := 5) (N := some 32) (v := ?_) (a' := ?_) #[true, true, true, true, true, true, false, false, false, false, false] rfl rfl (by kernel_rfl) (fun _ _ _ h => h) (Or.inl ⟨by rfl, ?_⟩) ?_ ?_
      rotate_left
      · intro w'
        go_simp
        with_reducible rfl
      rotate_left
      · simp only [Act.put, List.setIfInBounds_toArray, List.set_cons_zero, List.set_cons_succ, i64_w, i32_w]
        rfl
      refine take_ (i := 6) (N := some 33) (v := ?_) (a' := ?_) #[true, true, true, true, true, true, true, false, false, false, false] rfl rfl (by kernel_rfl) (fun _ _ _ h => h) (Or.inl ⟨by rfl, ?_⟩) hS0 ?_ ?_
      rotate_left
      · rintro w' k0'
        go_simp
        with_reducible rfl
      rotate_left
      · simp only [Act.put, List.setIfInBounds_toArray, List.set_cons_zero, List.set_cons_succ, i64_w, i32_w]
        rfl
      refine pure_ (i := 7) (N := some 34) (v := ?_) (a' := ?_) #[true, true, true, true, true, true, true, true, false, false, false] rfl rfl (by kernel_rfl) (fun _ _ _ h => h) (Or.inl ⟨by rfl, ?_⟩) ?_ ?_
      rotate_left
      · intro w'
        go_simp
        with_reducible rfl
      rotate_left
      · simp only [Act.put, List.setIfInBounds_toArray, List.set_cons_zero, List.set_cons_succ, i64_w, i32_w]
        rfl
      refine pure_ (i := 8) (N := some 35) (v := ?_) (a' := ?_) #[true, true, true, true, true, true, true, true, true, false, false] rfl rfl (by kernel_rfl) (fun _ _ _ h => h) (Or.inl ⟨by rfl, ?_⟩) ?_ ?_
      rotate_left
      · intro w'
        go_simp
        with_reducible rfl
      rotate_left
      · simp only [Act.put, List.setIfInBounds_toArray, List.set_cons_zero, List.set_cons_succ, i64_w, i32_w]
        rfl
      refine pure_ (i := 9) (N := some 36) (v := ?_) (a' := ?_) #[true, true, true, true, true, true, true, true, true, true, false] rfl rfl (by kernel_rfl) (fun _ _ _ h => h) (Or.inl ⟨by rfl, ?_⟩) ?_ ?_
      rotate_left
      · intro w'
        go_simp
        with_reducible rfl
      rotate_left
      · simp only [Act.put, List.setIfInBounds_toArray, List.set_cons_zero, List.set_cons_succ, i64_w, i32_w]
        rfl
      refine pure_ (i := 10) (N := some 37) (v := ?_) (a' := ?_) #[true, true, true, true, true, true, true, true, true, true, true] rfl rfl (by kernel_rfl) (fun _ _ _ h => h) (Or.inl ⟨by rfl, ?_⟩) ?_ ?_
      rotate_left
      · intro w'
        go_simp
        with_reducible rfl
      rotate_left
      · simp only [Act.put, List.setIfInBounds_toArray, List.set_cons_zero, List.set_cons_succ, i64_w, i32_w]
        rfl
      refine done_ (by kernel_rfl) ?_
      have e1 : decide ((s : Int) < 0) = false := decide_eq_false (by omega)
      have e2 : decide (wrap64 (2 ^ min n 64) ≤ (s : Int)) = false := by
        have h1 := HN.out
        have hp : 2 ^ n ≤ 2 ^ 16 := Nat.pow_le_pow_right (by omega) h1.2.1
        have e3 : (2 : Int) ^ min n 64 = ((2 ^ n : Nat) : Int) := by rw [Nat.min_eq_left (by omega)]; push_cast; rfl
        rw [e3, wrap_id (by omega) (by omega)]
        exact decide_eq_false (by omega)
      simp only [e1, e2, Bool.or_false]
      have f0 := H3.out.f0
      have f1 := H3.out.f1
      have f2 := H3.out.f2
      have HWH := Aside0.mk (wheel_calls n Q Wf 94 (by have := HN.out; omega) (by have := HF.out; rw [← HQ.out.1]; omega) (by have := HF.out; rw [← HQ.out.1]; omega) #[.pointer (some ⟨Bs, 0, none⟩)] (bitW s) (fun k _ => by unfold bitW; split <;> omega) W3.drew (fun args W => enters_ Tryd.func94 (by kernel_rfl) rfl args W) (fun W k hk hb => chords1_calls n s Bs HN.out.2.1 HN.out.2.2 W (cell_to hS0 hb) k hk))
      clear e1 e2 hshl
      go_wp2_with fail
      refine HWH.out.mono ?_
      rintro e w7 ⟨v, rfl, hr7, hb7⟩
      have H7 := Aside0.mk (show ChSt n Q Wf s R Bz BF w w7 from (H3.out.to (below_drew (Below.refl _ _))).to hb7)
      have HR7 := Aside0.mk (Kd.R_lower hr7 (show Bz + 1 ≤ W3.heap.size from World.block_lt_of_cell? _ _ (H3.out.z 0 (by omega))))
      clear hr7 hb7 f0 f1 f2 hS0
      obtain ⟨A7, c7, e7⟩ := Kd.R_slice HR7.out
      rw [wheelL_len] at e7
      have hone : v.oneCell' = true := by rw [e7]; rfl
      subst e7
      go_wp2_with (first | ((with_reducible refine gate_dst (N := 44) rfl ?_); refine app_row (.slice A7 n c7) hone rfl (.tmp 39) (.tmp 43) _ rfl rfl rfl ?_; intro G c w8 hG hge hb8; have H8 := Aside0.mk (H7.out.to hb8); have HG8 := Aside0.mk (And.intro hG (And.intro hge (Kd.R_below HR7.out hb8))); have HW7 := Aside0.mk (show Bz < w7.heap.size from World.block_lt_of_cell? _ _ (H7.out.z 0 (by omega))); clear hG hge hb8))
      go_roundg 1
      case measure => omega
      case rel => exact ⟨1, by go_num, rfl, ⟨H8.out⟩, .inr ⟨rfl, G, c, _, rfl, ⟨HG8.out.1, by have := HG8.out.2.1; have := HW7.out; have := HBZ.out; omega, HG8.out.2.2⟩⟩⟩
    · have f0 := HS.out.f0
      have f1 := HS.out.f1
      have f2 := HS.out.f2
      have z0 := HS.out.z 0 (by omega)
      have z1 := HS.out.z 1 (by omega)
      have z2 := HS.out.z 2 (by omega)
      have y0 := HS.out.fr 0
      have y1 := HS.out.fr 1
      have y2 := HS.out.fr 2
      obtain ⟨d0, d1_, d2_⟩ := fld_set (.int .i64 (n : Int)) (.int .i64 (Q : Int)) (.int .i64 (Wf : Int)) (HS.out.z 0 (by omega)) (HS.out.z 1 (by omega)) (HS.out.z 2 (by omega))
      have HFIN := Aside0.mk (show Below w.heap.size w (((wr.setCell ⟨Bz, 0, none⟩ (.int .i64 (n : Int))).setCell ⟨Bz, 1, none⟩ (.int .i64 (Q : Int))).setCell ⟨Bz, 2, none⟩ (.int .i64 (Wf : Int))) from below_set (below_set (below_set HS.out.bl HS.out.ge) HS.out.ge) HS.out.ge)
      have HGF := Aside0.mk (show (((wr.setCell ⟨Bz, 0, none⟩ (.int .i64 (n : Int))).setCell ⟨Bz, 1, none⟩ (.int .i64 (Q : Int))).setCell ⟨Bz, 2, none⟩ (.int .i64 (Wf : Int))).cell? ⟨G, 0, none⟩ = some v ∧ Kd.R (Kd.int .i64) 3 (((wr.setCell ⟨Bz, 0, none⟩ (.int .i64 (n : Int))).setCell ⟨Bz, 1, none⟩ (.int .i64 (Q : Int))).setCell ⟨Bz, 2, none⟩ (.int .i64 (Wf : Int))) w.heap.size (fun _ => True) v (wheelL n Q (bitW s)) from by
        have h1 := HG.out.2.1
        have h3 := HBZ.out
        refine ⟨(World.cell?_setCell_far _ _ _ _ (by simp only [ne_eq]; omega)).trans ((World.cell?_setCell_far _ _ _ _ (by simp only [ne_eq]; omega)).trans ((World.cell?_setCell_far _ _ _ _ (by simp only [ne_eq]; omega)).trans HG.out.1)), ?_⟩
        refine Kd.R_lower (Kd.R_mono (Kd.R_move (Kd.R_bound HG.out.2.2) (fun i hi => ?_)) (fun _ _ => trivial)) (by omega)
        have hne : i ≠ Bz := by have := hi.2.1; omega
        exact (Below.heap_setCell _ _ _ _ (by simp only [ne_eq]; exact hne)).trans ((Below.heap_setCell _ _ _ _ (by simp only [ne_eq]; exact hne)).trans (Below.heap_setCell _ _ _ _ (by simp only [ne_eq]; exact hne))))
      go_wp2_with fail
      exact bodyPost_ret (results_fld3 rfl _ _ Bz (n : Int) (Q : Int) (Wf : Int) (.slice (some ⟨G, 0, none⟩) 1 c) (.bool true) rfl rfl rfl d0 d1_ d2_) rfl ⟨G, c, v, by rw [HQ.out.1, HQ.out.2], HGF.out.1, by rw [HQ.out.1]; exact HGF.out.2, HFIN.out⟩
set_option maxHeartbeats 8000000 in
set_option maxRecDepth 100000 in
theorem chords_none {a s : Int} {R : Nat} (h : a < 2 ∨ a > 16) (w : World) (hc : w.cell? ⟨R, 0, none⟩ = some (.int .i64 s)) :
    Calls Tryd.prog 61 #[.int .i64 a, .slice (some ⟨R, 0, none⟩) 1 1] w fun e w' => (∃ x y z : Int, e = .returned (.tuple #[.agg #[.int .i64 x, .int .i64 y, .int .i64 z], .slice none 0 0, .bool false])) ∧ Below w.heap.size w w' := by
  have HRD := Aside0.mk (fun (V : World) => read_bad a h (.slice none 0 0) V)
  clear h
  go_enter Tryd.func61, Tryd.ntmps61
  go_wp2_with fail
  refine (HRD.out _).mono ?_
  rintro e w1 ⟨rfl, hb1⟩
  have HI := Aside0.mk (chSt_new (n := 0) (q := 0) (f := 0) (s := s) hc hb1)
  clear hc hb1
  go_wp2_with fail
  obtain ⟨W2, hW2⟩ : ∃ W2, (w1.alloc (.cells #[.int .i64 0, .int .i64 0, .int .i64 0] 80)) = W2 := ⟨_, rfl⟩
  obtain ⟨Bz, hBz⟩ : ∃ B, w.heap.size = B := ⟨_, rfl⟩
  obtain ⟨BF, hBF⟩ : ∃ B, w1.heap.size = B := ⟨_, rfl⟩
  have HI2 := Aside0.mk (show ChSt 0 0 0 s R Bz BF w W2 by rw [← hW2, ← hBz, ← hBF]; exact HI.out)
  rw [hW2, hBz, hBF]
  clear hW2 hBz hBF HI
  go_loopg [10, 23] 1 (fun gg s10 s23 wr => s23 = .int .i64 0 ∧ s10 = .slice none 0 0 ∧ Aside0 (ChSt 0 0 0 s R Bz BF w wr))
  case atStart => exact ⟨rfl, rfl, HI2⟩
  case round =>
    obtain ⟨rfl, rfl, HS⟩ := hrel
    have r0 := HS.out.r0
    go_wp2_with fail
    obtain ⟨W3, hW3⟩ : ∃ W3, (wr.alloc (.cells #[.int .i64 s] 3)) = W3 := ⟨_, rfl⟩
    obtain ⟨Bs, hBs⟩ : ∃ B, wr.heap.size = B := ⟨_, rfl⟩
    have hS0 : W3.drew.cell? ⟨Bs, 0, none⟩ = some (.int .i64 s) := by rw [← hW3, ← hBs]; exact cells_new _ _ _ _
    have H3 := Aside0.mk (show ChSt 0 0 0 s R Bz BF w W3 by rw [← hW3]; exact HS.out.to (below_alloc (Below.refl _ _) _))
    rw [hW3, hBs]
    clear hW3 hBs r0 HS
    refine start_ (n := 11) (S := (fun w' => w'.cell? ⟨Bs, 0, none⟩ = some (.int .i64 s))) (ds := []) #[false, false, false, false, false, false, false, false, false, false, false] (by kernel_rfl) rfl rfl hS0 (fun _ => ?_)
    refine pure_ (i := 0) (N := some 27) (v := ?_) (a' := ?_) #[true, false, false, false, false, false, false, false, false, false, false] rfl rfl (by kernel_rfl) (fun _ _ _ h => h) (Or.inl ⟨by rfl, ?_⟩) ?_ ?_
    rotate_left
    · intro w'
      go_simp
      with_reducible rfl
    rotate_left
    · simp only [Act.put, List.setIfInBounds_toArray, List.set_cons_zero, List.set_cons_succ, i64_w, i32_w]
      rfl
    refine pure_ (i := 1) (N := some 28) (v := ?_) (a' := ?_) #[true, true, false, false, false, false, false, false, false, false, false] rfl rfl (by kernel_rfl) (fun _ _ _ h => h) (Or.inl ⟨by rfl, ?_⟩) ?_ ?_
    rotate_left
    · intro w'
      go_simp
      with_reducible rfl
    rotate_left
    · simp only [Act.put, List.setIfInBounds_toArray, List.set_cons_zero, List.set_cons_succ, i64_w, i32_w]
      rfl
    refine pure_ (i := 2) (N := some 29) (v := undef) (a' := ?_) #[true, true, true, false, false, false, false, false, false, false, false] rfl rfl (by kernel_rfl) (fun _ _ _ h => h) (Or.inr ⟨by rfl, rfl⟩) ?_ ?_
    rotate_left
    · simp only [Act.put, List.setIfInBounds_toArray, List.set_cons_zero, List.set_cons_succ, i64_w, i32_w]
      rfl
    refine pure_ (i := 3) (N := some 30) (v := undef) (a' := ?_) #[true, true, true, true, false, false, false, false, false, false, false] rfl rfl (by kernel_rfl) (fun _ _ _ h => h) (Or.inr ⟨by rfl, rfl⟩) ?_ ?_
    rotate_left
    · simp only [Act.put, List.setIfInBounds_toArray, List.set_cons_zero, List.set_cons_succ, i64_w, i32_w]
      rfl
    refine pure_ (i := 4) (N := some 31) (v := ?_) (a' := ?_) #[true, true, true, true, true, false, false, false, false, false, false] rfl rfl (by kernel_rfl) (fun _ _ _ h => h) (Or.inl ⟨by rfl, ?_⟩) ?_ ?_
    rotate_left
    · intro w'
      go_simp
      with_reducible rfl
    rotate_left
    · simp only [Act.put, List.setIfInBounds_toArray, List.set_cons_zero, List.set_cons_succ, i64_w, i32_w]
      rfl
    refine pure_ (i := 5) (N := some 32) (v := ?_) (a' := ?_) #[true, true, true, true, true, true, false, false, false, false, false] rfl rfl (by kernel_rfl) (fun _ _ _ h => h) (Or.inl ⟨by rfl, ?_⟩) ?_ ?_
    rotate_left
    · intro w'
      go_simp
      with_reducible rfl
    rotate_left
    · simp only [Act.put, List.setIfInBounds_toArray, List.set_cons_zero, List.set_cons_succ, i64_w, i32_w]
      rfl
    refine pure_ (i := 6) (N := some 33) (v := undef) (a' := ?_) #[true, true, true, true, true, true, true, false, false, false, false] rfl rfl (by kernel_rfl) (fun _ _ _ h => h) (Or.inr ⟨by rfl, rfl⟩) ?_ ?_
    rotate_left
    · simp only [Act.put, List.setIfInBounds_toArray, List.set_cons_zero, List.set_cons_succ, i64_w, i32_w]
      rfl
    refine pure_ (i := 7) (N := some 34) (v := undef) (a' := ?_) #[true, true, true, true, true, true, true, true, false, false, false] rfl rfl (by kernel_rfl) (fun _ _ _ h => h) (Or.inr ⟨by rfl, rfl⟩) ?_ ?_
    rotate_left
    · simp only [Act.put, List.setIfInBounds_toArray, List.set_cons_zero, List.set_cons_succ, i64_w, i32_w]
      rfl
    refine pure_ (i := 8) (N := some 35) (v := undef) (a' := ?_) #[true, true, true, true, true, true, true, true, true, false, false] rfl rfl (by kernel_rfl) (fun _ _ _ h => h) (Or.inr ⟨by rfl, rfl⟩) ?_ ?_
    rotate_left
    · simp only [Act.put, List.setIfInBounds_toArray, List.set_cons_zero, List.set_cons_succ, i64_w, i32_w]
      rfl
    refine pure_ (i := 9) (N := some 36) (v := undef) (a' := ?_) #[true, true, true, true, true, true, true, true, true, true, false] rfl rfl (by kernel_rfl) (fun _ _ _ h => h) (Or.inr ⟨by rfl, rfl⟩) ?_ ?_
    rotate_left
    · simp only [Act.put, List.setIfInBounds_toArray, List.set_cons_zero, List.set_cons_succ, i64_w, i32_w]
      rfl
    refine pure_ (i := 10) (N := some 37) (v := ?_) (a' := ?_) #[true, true, true, true, true, true, true, true, true, true, true] rfl rfl (by kernel_rfl) (fun _ _ _ h => h) (Or.inl ⟨by rfl, ?_⟩) ?_ ?_
    rotate_left
    · intro w'
      go_simp
      with_reducible rfl
    rotate_left
    · simp only [Act.put, List.setIfInBounds_toArray, List.set_cons_zero, List.set_cons_succ, i64_w, i32_w]
      rfl
    refine done_ (by kernel_rfl) ?_
    have f0 := H3.out.f0
    have f1 := H3.out.f1
    have f2 := H3.out.f2
    have z0 := H3.out.z 0 (by omega)
    have z1 := H3.out.z 1 (by omega)
    have z2 := H3.out.z 2 (by omega)
    have y0 := H3.out.fr 0
    have y1 := H3.out.fr 1
    have y2 := H3.out.fr 2
    obtain ⟨d0, d1_, d2_⟩ := fld_set (.int .i64 0) (.int .i64 0) (.int .i64 0) (H3.out.z 0 (by omega)) (H3.out.z 1 (by omega)) (H3.out.z 2 (by omega))
    have HFIN := Aside0.mk (show Below w.heap.size w (((W3.setCell ⟨Bz, 0, none⟩ (.int .i64 0)).setCell ⟨Bz, 1, none⟩ (.int .i64 0)).setCell ⟨Bz, 2, none⟩ (.int .i64 0)).drew from (below_set (below_set (below_set H3.out.bl H3.out.ge) H3.out.ge) H3.out.ge).drew)
    go_wp2_with fail
    exact bodyPost_ret (results_fld3 rfl _ _ Bz 0 0 0 (.slice none 0 0) (.bool false) rfl rfl rfl d0 d1_ d2_) rfl ⟨⟨_, _, _, rfl⟩, HFIN.out⟩
set_option maxHeartbeats 8000000 in
set_option maxRecDepth 100000 in
theorem chords_far {n R : Nat} {s : Int} (h2 : 2 ≤ n) (h16 : n ≤ 16) (h : s < 0 ∨ (2 : Int) ^ n ≤ s) (w : World) (hc : w.cell? ⟨R, 0, none⟩ = some (.int .i64 s)) :
    Calls Tryd.prog 61 #[.int .i64 (n : Int), .slice (some ⟨R, 0, none⟩) 1 1] w fun e w' => (∃ x y z : Int, e = .returned (.tuple #[.agg #[.int .i64 x, .int .i64 y, .int .i64 z], .slice none 0 0, .bool false])) ∧ Below w.heap.size w w' := by
  have HRD := Aside0.mk (fun (V : World) => read_good h2 h16 (.slice none 0 0) V (fun Bn BF V' _ _ => containsR _ _ _ _ (indexR_nil _ _ _)))
  have HN := Aside0.mk (show 2 ≤ n ∧ n ≤ 16 ∧ (s < 0 ∨ (2 : Int) ^ n ≤ s) from ⟨h2, h16, h⟩)
  clear h2 h16 h
  go_enter Tryd.func61, Tryd.ntmps61
  go_wp2_with fail
  refine (HRD.out _).mono ?_
  rintro e w1 ⟨rfl, hb1⟩
  obtain ⟨Q, hQ⟩ : ∃ x, qF n = x := ⟨_, rfl⟩
  obtain ⟨Wf, hWf⟩ : ∃ x, wF n = x := ⟨_, rfl⟩
  have HI := Aside0.mk (chSt_new (n := n) (q := Q) (f := Wf) (s := s) hc hb1)
  have hnz : ¬ (n : Int) = 0 := by have := HN.out.1; omega
  have hnzn : ¬ n = 0 := by have := HN.out.1; omega
  simp only [hQ, hWf]
  clear hQ hWf hc hb1
  go_wp2_with fail
  obtain ⟨W2, hW2⟩ : ∃ W2, (w1.alloc (.cells #[.int .i64 (n : Int), .int .i64 (Q : Int), .int .i64 (Wf : Int)] 80)) = W2 := ⟨_, rfl⟩
  obtain ⟨Bz, hBz⟩ : ∃ B, w.heap.size = B := ⟨_, rfl⟩
  obtain ⟨BF, hBF⟩ : ∃ B, w1.heap.size = B := ⟨_, rfl⟩
  have HI2 := Aside0.mk (show ChSt n Q Wf s R Bz BF w W2 by rw [← hW2, ← hBz, ← hBF]; exact HI.out)
  rw [hW2, hBz, hBF]
  clear hW2 hBz hBF HI
  go_loopg [10, 23] 1 (fun gg s10 s23 wr => s23 = .int .i64 0 ∧ s10 = .slice none 0 0 ∧ Aside0 (ChSt n Q Wf s R Bz BF w wr))
  case atStart => exact ⟨rfl, rfl, HI2⟩
  case round =>
    obtain ⟨rfl, rfl, HS⟩ := hrel
    have r0 := HS.out.r0
    go_wp2_with fail
    obtain ⟨W3, hW3⟩ : ∃ W3, (wr.alloc (.cells #[.int .i64 s] 3)) = W3 := ⟨_, rfl⟩
    obtain ⟨Bs, hBs⟩ : ∃ B, wr.heap.size = B := ⟨_, rfl⟩
    have hS0 : W3.drew.cell? ⟨Bs, 0, none⟩ = some (.int .i64 s) := by rw [← hW3, ← hBs]; exact cells_new _ _ _ _
    have H3 := Aside0.mk (show ChSt n Q Wf s R Bz BF w W3 by rw [← hW3]; exact HS.out.to (below_alloc (Below.refl _ _) _))
    rw [hW3, hBs]
    clear hW3 hBs r0 HS
    by_cases hlt : s < 0
    · have e1 : decide (s < 0) = true := decide_eq_true hlt
      refine start_ (n := 11) (S := (fun w' => w'.cell? ⟨Bs, 0, none⟩ = some (.int .i64 s))) (ds := []) #[false, false, false, false, false, false, false, false, false, false, false] (by kernel_rfl) rfl rfl hS0 (fun _ => ?_)
      refine pure_ (i := 0) (N := some 27) (v := ?_) (a' := ?_) #[true, false, false, false, false, false, false, false, false, false, false] rfl rfl (by kernel_rfl) (fun _ _ _ h => h) (Or.inl ⟨by rfl, ?_⟩) ?_ ?_
      rotate_left
      · intro w'
        go_simp
        with_reducible rfl
      rotate_left
      · simp only [Act.put, List.setIfInBounds_toArray, List.set_cons_zero, List.set_cons_succ, i64_w, i32_w]
        rfl
      refine pure_ (i := 1) (N := some 28) (v := ?_) (a' := ?_) #[true, true, false, false, false, false, false, false, false, false, false] rfl rfl (by kernel_rfl) (fun _ _ _ h => h) (Or.inl ⟨by rfl, ?_⟩) ?_ ?_
      rotate_left
      · intro w'
        go_simp
        with_reducible rfl
      rotate_left
      · simp only [Act.put, List.setIfInBounds_toArray, List.set_cons_zero, List.set_cons_succ, i64_w, i32_w]
        rfl
      refine take_ (i := 2) (N := some 29) (v := ?_) (a' := ?_) #[true, true, true, false, false, false, false, false, false, false, false] rfl rfl (by kernel_rfl) (fun _ _ _ h => h) (Or.inl ⟨by rfl, ?_⟩) hS0 ?_ ?_
      rotate_left
      · rintro w' k0'
        go_simp
        with_reducible rfl
      rotate_left
      · simp only [Act.put, List.setIfInBounds_toArray, List.set_cons_zero, List.set_cons_succ, i64_w, i32_w]
        rfl
      refine pure_ (i := 3) (N := some 30) (v := ?_) (a' := ?_) #[true, true, true, true, false, false, false, false, false, false, false] rfl rfl (by kernel_rfl) (fun _ _ _ h => h) (Or.inl ⟨by rfl, ?_⟩) ?_ ?_
      rotate_left
      · intro w'
        go_simp
        with_reducible rfl
      rotate_left
      · simp only [Act.put, List.setIfInBounds_toArray, List.set_cons_zero, List.set_cons_succ, i64_w, i32_w]
        rfl
      refine pure_ (i := 4) (N := some 31) (v := ?_) (a' := ?_) #[true, true, true, true, true, false, false, false, false, false, false] rfl rfl (by kernel_rfl) (fun _ _ _ h => h) (Or.inl ⟨by rfl, ?_⟩) ?_ ?_
      rotate_left
      · intro w'
        go_simp
        with_reducible rfl
      rotate_left
      · simp only [Act.put, List.setIfInBounds_toArray, List.set_cons_zero, List.set_cons_succ, i64_w, i32_w]
        rfl
      refine pure_ (i := 5) (N := some 32) (v := ?_) (a' := ?_) #[true, true, true, true, true, true, false, false, false, false, false] rfl rfl (by kernel_rfl) (fun _ _ _ h => h) (Or.inl ⟨by rfl, ?_⟩) ?_ ?_
      rotate_left
      · intro w'
        go_simp
        with_reducible rfl
      rotate_left
      · simp only [Act.put, List.setIfInBounds_toArray, List.set_cons_zero, List.set_cons_succ, i64_w, i32_w]
        rfl
      refine pure_ (i := 6) (N := some 33) (v := undef) (a' := ?_) #[true, true, true, true, true, true, true, false, false, false, false] rfl rfl (by kernel_rfl) (fun _ _ _ h => h) (Or.inr ⟨by rfl, rfl⟩) ?_ ?_
      rotate_left
      · simp only [Act.put, List.setIfInBounds_toArray, List.set_cons_zero, List.set_cons_succ, i64_w, i32_w]
        rfl
      refine pure_ (i := 7) (N := some 34) (v := undef) (a' := ?_) #[true, true, true, true, true, true, true, true, false, false, false] rfl rfl (by kernel_rfl) (fun _ _ _ h => h) (Or.inr ⟨by rfl, rfl⟩) ?_ ?_
      rotate_left
      · simp only [Act.put, List.setIfInBounds_toArray, List.set_cons_zero, List.set_cons_succ, i64_w, i32_w]
        rfl
      refine pure_ (i := 8) (N := some 35) (v := undef) (a' := ?_) #[true, true, true, true, true, true, true, true, true, false, false] rfl rfl (by kernel_rfl) (fun _ _ _ h => h) (Or.inr ⟨by rfl, rfl⟩) ?_ ?_
      rotate_left
      · simp only [Act.put, List.setIfInBounds_toArray, List.set_cons_zero, List.set_cons_succ, i64_w, i32_w]
        rfl
      refine pure_ (i := 9) (N := some 36) (v := undef) (a' := ?_) #[true, true, true, true, true, true, true, true, true, true, false] rfl rfl (by kernel_rfl) (fun _ _ _ h => h) (Or.inr ⟨by rfl, rfl⟩) ?_ ?_
      rotate_left
      · simp only [Act.put, List.setIfInBounds_toArray, List.set_cons_zero, List.set_cons_succ, i64_w, i32_w]
        rfl
      refine pure_ (i := 10) (N := some 37) (v := ?_) (a' := ?_) #[true, true, true, true, true, true, true, true, true, true, true] rfl rfl (by kernel_rfl) (fun _ _ _ h => h) (Or.inl ⟨by rfl, ?_⟩) ?_ ?_
      rotate_left
      · intro w'
        go_simp
        with_reducible rfl
      rotate_left
      · simp only [Act.put, List.setIfInBounds_toArray, List.set_cons_zero, List.set_cons_succ, i64_w, i32_w]
        rfl
      refine done_ (by kernel_rfl) ?_
      have f0 := H3.out.f0
      have f1 := H3.out.f1
      have f2 := H3.out.f2
      have z0 := H3.out.z 0 (by omega)
      have z1 := H3.out.z 1 (by omega)
      have z2 := H3.out.z 2 (by omega)
      have y0 := H3.out.fr 0
      have y1 := H3.out.fr 1
      have y2 := H3.out.fr 2
      clear e1
      obtain ⟨d0, d1_, d2_⟩ := fld_set (.int .i64 (n : Int)) (.int .i64 (Q : Int)) (.int .i64 (Wf : Int)) (H3.out.z 0 (by omega)) (H3.out.z 1 (by omega)) (H3.out.z 2 (by omega))
      have HFIN := Aside0.mk (show Below w.heap.size w (((W3.setCell ⟨Bz, 0, none⟩ (.int .i64 (n : Int))).setCell ⟨Bz, 1, none⟩ (.int .i64 (Q : Int))).setCell ⟨Bz, 2, none⟩ (.int .i64 (Wf : Int))).drew from (below_set (below_set (below_set H3.out.bl H3.out.ge) H3.out.ge) H3.out.ge).drew)
      go_wp2_with fail
      exact bodyPost_ret (results_fld3 rfl _ _ Bz (n : Int) (Q : Int) (Wf : Int) (.slice none 0 0) (.bool false) rfl rfl rfl d0 d1_ d2_) rfl ⟨⟨_, _, _, rfl⟩, HFIN.out⟩
    · have e1 : decide (s < 0) = false := decide_eq_false hlt
      have e2 : decide (wrap64 (2 ^ min n 64) ≤ s) = true := by
        have h1 := HN.out
        obtain ⟨P, hP⟩ : ∃ P : Nat, P = 2 ^ n := ⟨_, rfl⟩
        have hp : P ≤ 65536 := by rw [hP]; exact Nat.pow_le_pow_right (by omega) h1.2.1
        have e4 : (2 : Int) ^ n = (P : Int) := by rw [hP]; push_cast; rfl
        rw [e4] at h1
        rw [Nat.min_eq_left (by omega), e4, wrap_id (by omega) (by omega)]
        exact decide_eq_true (h1.2.2.resolve_left hlt)
      refine start_ (n := 11) (S := (fun w' => w'.cell? ⟨Bs, 0, none⟩ = some (.int .i64 s))) (ds := []) #[false, false, false, false, false, false, false, false, false, false, false] (by kernel_rfl) rfl rfl hS0 (fun _ => ?_)
      refine pure_ (i := 0) (N := some 27) (v := ?_) (a' := ?_) #[true, false, false, false, false, false, false, false, false, false, false] rfl rfl (by kernel_rfl) (fun _ _ _ h => h) (Or.inl ⟨by rfl, ?_⟩) ?_ ?_
      rotate_left
      · intro w'
        go_simp
        with_reducible rfl
      rotate_left
      · simp only [Act.put, List.setIfInBounds_toArray, List.set_cons_zero, List.set_cons_succ, i64_w, i32_w]
        rfl
      refine pure_ (i := 1) (N := some 28) (v := ?_) (a' := ?_) #[true, true, false, false, false, false, false, false, false, false, false] rfl rfl (by kernel_rfl) (fun _ _ _ h => h) (Or.inl ⟨by rfl, ?_⟩) ?_ ?_
      rotate_left
      · intro w'
        go_simp
        with_reducible rfl
      rotate_left
      · simp only [Act.put, List.setIfInBounds_toArray, List.set_cons_zero, List.set_cons_succ, i64_w, i32_w]
        rfl
      refine take_ (i := 2) (N := some 29) (v := ?_) (a' := ?_) #[true, true, true, false, false, false, false, false, false, false, false] rfl rfl (by kernel_rfl) (fun _ _ _ h => h) (Or.inl ⟨by rfl, ?_⟩) hS0 ?_ ?_
      rotate_left
      · rintro w' k0'
        go_simp
        with_reducible rfl
      rotate_left
      · simp only [Act.put, List.setIfInBounds_toArray, List.set_cons_zero, List.set_cons_succ, i64_w, i32_w]
        rfl
      refine pure_ (i := 3) (N := some 30) (v := ?_) (a' := ?_) #[true, true, true, true, false, false, false, false, false, false, false] rfl rfl (by kernel_rfl) (fun _ _ _ h => h) (Or.inl ⟨by rfl, ?_⟩) ?_ ?_
      rotate_left
      · intro w'
        go_simp
        with_reducible rfl
      rotate_left
      · simp only [Act.put, List.setIfInBounds_toArray, List.set_cons_zero, List.set_cons_succ, i64_w, i32_w]
        rfl
      refine pure_ (i := 4) (N := some 31) (v := ?_) (a' := ?_) #[true, true, true, true, true, false, false, false, false, false, false] rfl rfl (by kernel_rfl) (fun _ _ _ h => h) (Or.inl ⟨by rfl, ?_⟩) ?_ ?_
      rotate_left
      · intro w'
        go_simp
        with_reducible rfl
      rotate_left
      · simp only [Act.put, List.setIfInBounds_toArray, List.set_cons_zero, List.set_cons_succ, i64_w, i32_w]
        rfl
      refine pure_ (i := 5) (N := some 32) (v := ?_) (a' := ?_) #[true, true, true, true, true, true, false, false, false, false, false] rfl rfl (by kernel_rfl) (fun _ _ _ h => h) (Or.inl ⟨by rfl, ?_⟩) ?_ ?_
      rotate_left
      · intro w'
        go_simp
        with_reducible rfl
      rotate_left
      · simp only [Act.put, List.setIfInBounds_toArray, List.set_cons_zero, List.set_cons_succ, i64_w, i32_w]
        rfl
      refine take_ (i := 6) (N := some 33) (v := ?_) (a' := ?_) #[true, true, true, true, true, true, true, false, false, false, false] rfl rfl (by kernel_rfl) (fun _ _ _ h => h) (Or.inl ⟨by rfl, ?_⟩) hS0 ?_ ?_
      rotate_left
      · rintro w' k0'
        go_simp
        with_reducible rfl
      rotate_left
      · simp only [Act.put, List.setIfInBounds_toArray, List.set_cons_zero, List.set_cons_succ, i64_w, i32_w]
        rfl
      refine pure_ (i := 7) (N := some 34) (v := ?_) (a' := ?_) #[true, true, true, true, true, true, true, true, false, false, false] rfl rfl (by kernel_rfl) (fun _ _ _ h => h) (Or.inl ⟨by rfl, ?_⟩) ?_ ?_
      rotate_left
      · intro w'
        go_simp
        with_reducible rfl
      rotate_left
      · simp only [Act.put, List.setIfInBounds_toArray, List.set_cons_zero, List.set_cons_succ, i64_w, i32_w]
        rfl
      refine pure_ (i := 8) (N := some 35) (v := ?_) (a' := ?_) #[true, true, true, true, true, true, true, true, true, false, false] rfl rfl (by kernel_rfl) (fun _ _ _ h => h) (Or.inl ⟨by rfl, ?_⟩) ?_ ?_
      rotate_left
      · intro w'
        go_simp
        with_reducible rfl
      rotate_left
      · simp only [Act.put, List.setIfInBounds_toArray, List.set_cons_zero, List.set_cons_succ, i64_w, i32_w]
        rfl
      refine pure_ (i := 9) (N := some 36) (v := ?_) (a' := ?_) #[true, true, true, true, true, true, true, true, true, true, false] rfl rfl (by kernel_rfl) (fun _ _ _ h => h) (Or.inl ⟨by rfl, ?_⟩) ?_ ?_
      rotate_left
      · intro w'
        go_simp
        with_reducible rfl
      rotate_left
      · simp only [Act.put, List.setIfInBounds_toArray, List.set_cons_zero, List.set_cons_succ, i64_w, i32_w]
        rfl
      refine pure_ (i := 10) (N := some 37) (v := ?_) (a' := ?_) #[true, true, true, true, true, true, true, true, true, true, true] rfl rfl (by kernel_rfl) (fun _ _ _ h => h) (Or.inl ⟨by rfl, ?_⟩) ?_ ?_
      rotate_left
      · intro w'
        go_simp
        with_reducible rfl
      rotate_left
      · simp only [Act.put, List.setIfInBounds_toArray, List.set_cons_zero, List.set_cons_succ, i64_w, i32_w]
        rfl
      refine done_ (by kernel_rfl) ?_
      have f0 := H3.out.f0
      have f1 := H3.out.f1
      have f2 := H3.out.f2
      have z0 := H3.out.z 0 (by omega)
      have z1 := H3.out.z 1 (by omega)
      have z2 := H3.out.z 2 (by omega)
      have y0 := H3.out.fr 0
      have y1 := H3.out.fr 1
      have y2 := H3.out.fr 2
      clear e1 e2
      obtain ⟨d0, d1_, d2_⟩ := fld_set (.int .i64 (n : Int)) (.int .i64 (Q : Int)) (.int .i64 (Wf : Int)) (H3.out.z 0 (by omega)) (H3.out.z 1 (by omega)) (H3.out.z 2 (by omega))
      have HFIN := Aside0.mk (show Below w.heap.size w (((W3.setCell ⟨Bz, 0, none⟩ (.int .i64 (n : Int))).setCell ⟨Bz, 1, none⟩ (.int .i64 (Q : Int))).setCell ⟨Bz, 2, none⟩ (.int .i64 (Wf : Int))).drew from (below_set (below_set (below_set H3.out.bl H3.out.ge) H3.out.ge) H3.out.ge).drew)
      go_wp2_with fail
      exact bodyPost_ret (results_fld3 rfl _ _ Bz (n : Int) (Q : Int) (Wf : Int) (.slice none 0 0) (.bool false) rfl rfl rfl d0 d1_ d2_) rfl ⟨⟨_, _, _, rfl⟩, HFIN.out⟩

end Go.Proofs.YtfpnojcbhbkfaaaDoor.P
namespace Go.Proofs.YtfpnojcbhbkfaaaDoor.P
open Go.RowKit Go.Proofs.YtfpnojcbhbkfaaaDoorW.PrintWords Go.Proofs.YtfpnojcbhbkfaaaDoorW.PrintLast Go.Proofs.YtfpnojcbhbkfaaaDoorW.PrintMore
attribute [local go_sem] max2_int min2_int max_two min_two max_three min_three max_four min_four   -- for this text's walks alone
set_option linter.unusedVariables false
set_option linter.unusedSimpArgs false

/-! wheels.Silent: where a chord's spectrum is 0 -/
def bitsL (n s : Nat) : List Nat := (List.range n).map (bitW s)
theorem bitsL_len (n s : Nat) : (bitsL n s).length = n := by unfold bitsL; simp
theorem bitsL_lt {n s q : Nat} (hq : 2 ≤ q) : ∀ x ∈ bitsL n s, x < q := fun x hx => by
  unfold bitsL at hx
  obtain ⟨y, _, rfl⟩ := List.mem_map.1 hx
  unfold bitW
  split <;> omega
theorem wheel_bits {n s q : Nat} (hq : 2 ≤ q) : wheelL n q (bitW s) = natsI (bitsL n s) := by
  unfold wheelL natsI bitsL
  rw [List.map_map]
  refine List.map_congr_left (fun k _ => ?_)
  have : bitW s k < q := by unfold bitW; split <;> omega
  rw [Nat.mod_eq_of_lt this]
  rfl
/-- the spectrum of a chord -/
def specN (n s k : Nat) : Nat := turnedV (qF n) n (wF n) (bitsL n s) k % qF n
def silN (n s : Nat) : Nat → Nat
  | 0 => 0
  | k + 1 => if specN n s k = 0 then silN n s k ||| 2 ^ k else silN n s k
theorem silN_lt (n s : Nat) : ∀ k, silN n s k < 2 ^ k
  | 0 => by simp [silN]
  | k + 1 => by
    have h := silN_lt n s k
    have h2 : 2 ^ k < 2 ^ (k + 1) := Nat.pow_lt_pow_right (by omega) (by omega)
    unfold silN
    split
    · exact Nat.or_lt_two_pow (by omega) h2
    · omega
theorem silN_bit (n s j : Nat) : ∀ k, (silN n s k).testBit j = (decide (j < k) && decide (specN n s j = 0))
  | 0 => by simp [silN]
  | k + 1 => by
    have ih := silN_bit n s j k
    unfold silN
    by_cases hz : specN n s k = 0
    · rw [if_pos hz, Nat.testBit_or, ih, Nat.testBit_two_pow]
      by_cases e : j = k
      · subst e; simp [hz]
      · have h1 : decide (k = j) = false := decide_eq_false (fun h => e h.symm)
        have h2 : decide (j < k + 1) = decide (j < k) := by rw [decide_eq_decide]; omega
        rw [h1, h2, Bool.or_false]
    · rw [if_neg hz, ih]
      by_cases e : j = k
      · subst e; simp [hz]
      · have h2 : decide (j < k + 1) = decide (j < k) := by rw [decide_eq_decide]; omega
        rw [h2]
def wheels_Silent.f (a0 a1 : Int) : Option (Int × Int) := if 2 ≤ a0 ∧ a0 ≤ 16 ∧ 0 ≤ a1 ∧ a1 < (2 : Int) ^ a0.toNat then some ((silN a0.toNat a1.toNat a0.toNat : Int), 0) else some (0, 2)
set_option maxHeartbeats 8000000 in
set_option maxRecDepth 100000 in
theorem silent_good {n s : Nat} (h2 : 2 ≤ n) (h16 : n ≤ 16) (hs : s < 2 ^ n) (w : World) :
    Calls Tryd.prog 24 #[.int .i64 (n : Int), .int .i64 (s : Int)] w fun e w' => e = .returned (.tuple #[.int .i64 (silN n s n : Int), .int .i64 0]) ∧ Below w.heap.size w w' := by
  have HF := Aside0.mk (field_at h2 h16)
  have HCH := Aside0.mk (chords_good (R := w.heap.size) h2 h16 hs (w.alloc (.cells #[.int .i64 (s : Int)] 3)) (cells_new _ _ _ _))
  have HB0 := Aside0.mk (show Below w.heap.size w (w.alloc (.cells #[.int .i64 (s : Int)] 3)) from below_alloc (Below.refl _ _) _)
  have HN := Aside0.mk (And.intro h2 h16)
  have hn16 : n ≤ 16 := h16
  obtain ⟨Q, hQ⟩ : ∃ x, qF n = x := ⟨_, rfl⟩
  obtain ⟨Wf, hWf⟩ : ∃ x, wF n = x := ⟨_, rfl⟩
  have HQ := Aside0.mk (show 2 ≤ Q ∧ Q ≤ 1000 ∧ Wf < Q ∧ qF n = Q ∧ wF n = Wf from ⟨by rw [← hQ]; have := HF.out; omega, by rw [← hQ]; have := HF.out; omega, by rw [← hQ, ← hWf]; exact HF.out.2.2.2.1, hQ, hWf⟩)
  rw [hQ, hWf] at HCH
  clear h2 h16 hs hQ hWf
  go_enter Tryd.func24, Tryd.ntmps24
  go_wp2_with fail
  refine HCH.out.mono ?_
  rintro e w1 ⟨G, c, v, rfl, hG, hR, hb⟩
  obtain ⟨A7, c7, e7⟩ := Kd.R_slice hR
  rw [wheelL_len] at e7
  subst e7
  have H1 := Aside0.mk (show w1.cell? ⟨G, 0, none⟩ = some (.slice A7 n c7) ∧ Kd.C (Kd.int .i64) w1 A7 (natsI (bitsL n s)).length (natsI (bitsL n s)) ∧ Below w.heap.size w w1 from ⟨hG, by have h := (Kd.R_reads' hR).2.2; rw [wheel_bits HQ.out.1] at h; exact h, below_step HB0.out hb⟩)
  clear hG hR hb
  go_wp2_with fail
  obtain ⟨W2, hW2⟩ : ∃ W2, (w1.alloc (.cells #[.int .i64 (n : Int), .int .i64 (Q : Int), .int .i64 (Wf : Int)] 80)) = W2 := ⟨_, rfl⟩
  obtain ⟨BF, hBF⟩ : ∃ B, w1.heap.size = B := ⟨_, rfl⟩
  have H2 := Aside0.mk (show W2.cell? ⟨G, 0, none⟩ = some (.slice A7 n c7) ∧ Kd.C (Kd.int .i64) W2 A7 (natsI (bitsL n s)).length (natsI (bitsL n s)) ∧ Below w.heap.size w W2 from by
    rw [← hW2]
    have ha : Below w1.heap.size w1 (w1.alloc (.cells #[.int .i64 (n : Int), .int .i64 (Q : Int), .int .i64 (Wf : Int)] 80)) := below_alloc (Below.refl _ _) _
    exact ⟨cell_to H1.out.1 ha, Kd.C_below H1.out.2.1 ha, below_step H1.out.2.2 ha⟩)
  have hS0 : W2.drew.cell? ⟨G, 0, none⟩ = some (.slice A7 n c7) ∧ W2.drew.cell? ⟨BF, 0, none⟩ = some (.int .i64 (n : Int)) ∧ W2.drew.cell? ⟨BF, 1, none⟩ = some (.int .i64 (Q : Int)) ∧ W2.drew.cell? ⟨BF, 2, none⟩ = some (.int .i64 (Wf : Int)) := by
    refine ⟨H2.out.1, ?_, ?_, ?_⟩
    · rw [← hW2, ← hBF]; exact cells_new _ _ _ _
    · rw [← hW2, ← hBF]; exact cells_new _ _ _ _
    · rw [← hW2, ← hBF]; exact cells_new _ _ _ _
  have hsp := spectrum_calls n Q Wf (bitsL n s) A7 c7 (by have := HN.out; omega) HN.out.2 HQ.out.1 HQ.out.2.1 HQ.out.2.2.1 (by rw [bitsL_len]; exact HN.out.2) (bitsL_lt HQ.out.1) W2.drew (Kd.C_drew H2.out.2.1)
  rw [bitsL_len] at hsp
  have HSP := Aside0.mk hsp
  rw [hW2, hBF]
  clear hW2 hBF H1 hsp
  refine start_ (n := 7) (S := (fun w' => w'.cell? ⟨G, 0, none⟩ = some (.slice A7 n c7) ∧ w'.cell? ⟨BF, 0, none⟩ = some (.int .i64 (n : Int)) ∧ w'.cell? ⟨BF, 1, none⟩ = some (.int .i64 (Q : Int)) ∧ w'.cell? ⟨BF, 2, none⟩ = some (.int .i64 (Wf : Int)))) (ds := []) #[false, false, false, false, false, false, false] (by kernel_rfl) rfl rfl hS0 (fun _ => ?_)
  refine pure_ (i := 1) (N := some 23) (v := ?_) (a' := ?_) #[false, true, false, false, false, false, false] rfl rfl (by kernel_rfl) (fun _ _ _ h => h) (Or.inl ⟨by rfl, ?_⟩) ?_ ?_
  rotate_left
  · intro w'
    go_simp
    with_reducible rfl
  rotate_left
  · simp only [Act.put, List.setIfInBounds_toArray, List.set_cons_zero, List.set_cons_succ, i64_w, i32_w]
    rfl
  refine pure_ (i := 2) (N := some 24) (v := ?_) (a' := ?_) #[false, true, true, false, false, false, false] rfl rfl (by kernel_rfl) (fun _ _ _ h => h) (Or.inl ⟨by rfl, ?_⟩) ?_ ?_
  rotate_left
  · intro w'
    go_simp
    with_reducible rfl
  rotate_left
  · simp only [Act.put, List.setIfInBounds_toArray, List.set_cons_zero, List.set_cons_succ, i64_w, i32_w]
    rfl
  refine pure_ (i := 6) (N := some 28) (v := ?_) (a' := ?_) #[false, true, true, false, false, false, true] rfl rfl (by kernel_rfl) (fun _ _ _ h => h) (Or.inl ⟨by rfl, ?_⟩) ?_ ?_
  rotate_left
  · intro w'
    go_simp
    with_reducible rfl
  rotate_left
  · simp only [Act.put, List.setIfInBounds_toArray, List.set_cons_zero, List.set_cons_succ, i64_w, i32_w]
    rfl
  refine take_ (i := 0) (N := some 22) (v := ?_) (a' := ?_) #[true, true, true, false, false, false, true] rfl rfl (by kernel_rfl) (fun _ _ _ h => h) (Or.inl ⟨by rfl, ?_⟩) hS0 ?_ ?_
  rotate_left
  · rintro w' ⟨k0', k1', k2', k3'⟩
    go_simp
    with_reducible rfl
  rotate_left
  · simp only [Act.put, List.setIfInBounds_toArray, List.set_cons_zero, List.set_cons_succ, i64_w, i32_w]
    rfl
  refine take_ (i := 3) (N := some 25) (v := ?_) (a' := ?_) #[true, true, true, true, false, false, true] rfl rfl (by kernel_rfl) (fun _ _ _ h => h) (Or.inl ⟨by rfl, ?_⟩) hS0 ?_ ?_
  rotate_left
  · rintro w' ⟨k0', k1', k2', k3'⟩
    go_simp
    with_reducible rfl
  rotate_left
  · simp only [Act.put, List.setIfInBounds_toArray, List.set_cons_zero, List.set_cons_succ, i64_w, i32_w]
    rfl
  refine one_ (i := 4) (N := some 26) #[true, true, true, true, true, false, true] rfl rfl (by kernel_rfl) (by decide) (fun K hK => ?_)
  refine goes_ Tryd.func62 (by kernel_rfl) rfl #[.agg #[.int .i64 (n : Int), .int .i64 (Q : Int), .int .i64 (Wf : Int)], .slice A7 n c7] (by rfl) rfl rfl (by simp only [List.map_toArray, List.map_cons, List.map_nil]; rfl) ?_
  refine HSP.out.mono ?_
  rintro e w7 ⟨v9, rfl, hR9, hb9⟩
  obtain ⟨A9, c9, e9⟩ := Kd.R_slice hR9
  rw [wheelL_len] at e9
  subst e9
  refine ⟨_, rfl, ?_⟩
  have H9 := Aside0.mk (show Kd.C (Kd.int .i64) w7 A9 n (wheelL n Q (turnedV Q n Wf (bitsL n s))) ∧ Below w.heap.size w w7 from ⟨by have h := (Kd.R_reads' hR9).2.2; rw [wheelL_len] at h; exact h, below_step H2.out.2.2.drew hb9⟩)
  have hS7 := (show w7.cell? ⟨G, 0, none⟩ = some (.slice A7 n c7) ∧ w7.cell? ⟨BF, 0, none⟩ = some (.int .i64 (n : Int)) ∧ w7.cell? ⟨BF, 1, none⟩ = some (.int .i64 (Q : Int)) ∧ w7.cell? ⟨BF, 2, none⟩ = some (.int .i64 (Wf : Int)) from ⟨cell_to hS0.1 hb9, cell_to hS0.2.1 hb9, cell_to hS0.2.2.1 hb9, cell_to hS0.2.2.2 hb9⟩)
  clear hR9 hb9
  refine hK.out _ _ hS7 (fun _ => ?_)
  clear hK K
  refine norm_ (a' := ?_) ?_ ?_
  rotate_left
  · show Act.put _ (some 26) _ = _
    simp only [Act.put, List.setIfInBounds_toArray, List.set_cons_zero, List.set_cons_succ, i64_w, i32_w]
    rfl
  refine pure_ (i := 5) (N := some 27) (v := ?_) (a' := ?_) #[true, true, true, true, true, true, true] rfl rfl (by kernel_rfl) (fun _ _ _ h => h) (Or.inl ⟨by rfl, ?_⟩) ?_ ?_
  rotate_left
  · intro w'
    go_simp
    with_reducible rfl
  rotate_left
  · simp only [Act.put, List.setIfInBounds_toArray, List.set_cons_zero, List.set_cons_succ, i64_w, i32_w]
    rfl
  refine done_ (by kernel_rfl) ?_
  clear hS0 hS7
  have hnz : (0 : Int) ≤ (n : Int) := by omega
  go_wp2_with fail
  go_loopg [9, 28] n (fun gg s9 s28 wr => ∃ k : Nat, s28 = .int .i64 (k : Int) ∧ s9 = .int .i64 (silN n s k : Int) ∧ k + gg = n ∧ Aside0 (Kd.C (Kd.int .i64) wr A9 n (wheelL n Q (turnedV Q n Wf (bitsL n s))) ∧ Below w.heap.size w wr))
  case atStart => exact ⟨0, rfl, rfl, by omega, H9⟩
  case round =>
    obtain ⟨k, rfl, rfl, hkg, HK⟩ := hrel
    by_cases hk : k < n
    · have hkz : (k : Int) < (n : Int) := by omega
      have hk0 : (0 : Int) ≤ (k : Int) := by omega
      obtain ⟨ad, ead, hcell⟩ := Kd.at_int HK.out.1 (k : Int) hk0 hkz
      have hrd : rd (wheelL n Q (turnedV Q n Wf (bitsL n s))) (k : Int) = (specN n s k : Int) := by
        rw [rd_get (by rw [wheelL_len]; exact hk)]
        unfold specN
        rw [HQ.out.2.2.2.1, HQ.out.2.2.2.2]
        simp [wheelL]
      rw [hrd, Int.toNat_natCast] at hcell
      cases ead
      obtain ⟨x, hx⟩ : ∃ x, specN n s k = x := ⟨_, rfl⟩
      obtain ⟨o, ho⟩ : ∃ o, silN n s k = o := ⟨_, rfl⟩
      rw [hx] at hcell
      rw [ho]
      have HX := Aside0.mk (And.intro hx ho)
      clear hrd hx ho
      by_cases hz : x = 0
      · subst hz
        have hor : Go.bits .or .i64 (o : Int) (wrap64 (2 ^ k)) = ((o ||| 2 ^ k : Nat) : Int) := by
          have h1 : o < 2 ^ 16 := by rw [← HX.out.2]; exact Nat.lt_of_lt_of_le (silN_lt n s k) (Nat.pow_le_pow_right (by omega) (by omega))
          have h2 : 2 ^ k ≤ 2 ^ 16 := Nat.pow_le_pow_right (by omega) (by omega)
          obtain ⟨P, hP⟩ : ∃ P : Nat, P = 2 ^ k := ⟨_, rfl⟩
          have e : (2 : Int) ^ k = (P : Int) := by rw [hP]; push_cast; rfl
          rw [← hP] at h2 ⊢
          rw [e, wrap_id (by omega) (by omega)]
          exact or_i64 (by omega) (by omega)
        go_wp2_with fail
        go_roundg (n - (k + 1))
        case measure => omega
        case rel =>
          refine ⟨k + 1, by go_num, ?_, by omega, HK⟩
          show _ = Value.int .i64 ((if specN n s k = 0 then silN n s k ||| 2 ^ k else silN n s k : Nat) : Int)
          rw [HX.out.1, if_pos rfl, HX.out.2, ← hor]
      · have hzz : ¬ (x : Int) = 0 := by omega
        go_wp2_with fail
        go_roundg (n - (k + 1))
        case measure => omega
        case rel =>
          refine ⟨k + 1, by go_num, ?_, by omega, HK⟩
          show _ = Value.int .i64 ((if specN n s k = 0 then silN n s k ||| 2 ^ k else silN n s k : Nat) : Int)
          rw [HX.out.1, if_neg hz, HX.out.2]
    · have hkz : ¬ (k : Int) < (n : Int) := by omega
      have hkn : k = n := by omega
      subst hkn
      go_wp2_with fail
      exact bodyPost_ret (results_tmp2 rfl _ _ _) rfl ⟨rfl, HK.out.2⟩
set_option maxHeartbeats 8000000 in
set_option maxRecDepth 100000 in
theorem silent_bad (a s : Int) (h : ¬ (2 ≤ a ∧ a ≤ 16 ∧ 0 ≤ s ∧ s < (2 : Int) ^ a.toNat)) (w : World) : Calls Tryd.prog 24 #[.int .i64 a, .int .i64 s] w fun e w' => e = .returned (.tuple #[.int .i64 0, .int .i64 2]) ∧ Below w.heap.size w w' := by
  have HCH := Aside0.mk (show Calls Tryd.prog 61 #[.int .i64 a, .slice (some ⟨w.heap.size, 0, none⟩) 1 1] (w.alloc (.cells #[.int .i64 s] 3)) (fun e w' => (∃ x y z : Int, e = .returned (.tuple #[.agg #[.int .i64 x, .int .i64 y, .int .i64 z], .slice none 0 0, .bool false])) ∧ Below (w.alloc (.cells #[.int .i64 s] 3)).heap.size (w.alloc (.cells #[.int .i64 s] 3)) w') from by
    by_cases hn : a < 2 ∨ a > 16
    · exact chords_none hn _ (cells_new _ _ _ _)
    · obtain ⟨n, rfl⟩ : ∃ n : Nat, a = (n : Int) := ⟨a.toNat, by omega⟩
      rw [Int.toNat_natCast] at h
      refine chords_far (by omega) (by omega) ?_ _ (cells_new _ _ _ _)
      by_cases hs : s < 0
      · exact .inl hs
      · right
        refine Int.not_lt.1 (fun hlt => h ⟨by omega, by omega, by omega, hlt⟩))
  have HB0 := Aside0.mk (show Below w.heap.size w (w.alloc (.cells #[.int .i64 s] 3)) from below_alloc (Below.refl _ _) _)
  clear h
  go_enter Tryd.func24, Tryd.ntmps24
  go_wp2_with fail
  refine HCH.out.mono ?_
  rintro e w1 ⟨⟨x, y, z, rfl⟩, hb⟩
  have H1 := Aside0.mk (show Below w.heap.size w (w1.alloc (.cells #[.int .i64 x, .int .i64 y, .int .i64 z] 80)) from below_alloc (below_step HB0.out hb) _)
  clear hb
  go_wp2_with fail
  exact bodyPost_ret (results_tmp2 rfl _ _ _) rfl ⟨rfl, H1.out⟩
theorem wheels_Silent.calls (a0 a1 r1 r2 : Int) (w : World) (h : wheels_Silent.f a0 a1 = some (r1, r2)) :
    Calls Tryd.prog 24 #[.int .i64 a0, .int .i64 a1] w fun e w' => e = .returned (.tuple #[.int .i64 r1, .int .i64 r2]) ∧ Below w.heap.size w w' := by
  unfold wheels_Silent.f at h
  by_cases hd : 2 ≤ a0 ∧ a0 ≤ 16 ∧ 0 ≤ a1 ∧ a1 < (2 : Int) ^ a0.toNat
  · rw [if_pos hd] at h
    injection h with h
    injection h with e1 e2
    subst e1
    subst e2
    obtain ⟨n, rfl⟩ : ∃ n : Nat, a0 = (n : Int) := ⟨a0.toNat, by omega⟩
    obtain ⟨s, rfl⟩ : ∃ s : Nat, a1 = (s : Int) := ⟨a1.toNat, by omega⟩
    rw [Int.toNat_natCast] at hd ⊢
    rw [Int.toNat_natCast]
    exact silent_good (by omega) (by omega) (by exact_mod_cast hd.2.2.2) w
  · rw [if_neg hd] at h
    injection h with h
    injection h with e1 e2
    subst e1
    subst e2
    exact silent_bad a0 a1 hd w
def wheels_Spectrum.f (a0 : Int) (l1 : List Int) : Option (List Int × Int) := if 2 ≤ a0 ∧ a0 ≤ 16 ∧ l1.length = a0.toNat ∧ ∀ x ∈ l1, 0 ≤ x ∧ x < (qF a0.toNat : Int) then some (wheelL a0.toNat (qF a0.toNat) (turnedV (qF a0.toNat) a0.toNat (wF a0.toNat) (l1.map Int.toNat)), 0) else none
theorem natsI_toNat {l : List Int} (h : ∀ x ∈ l, 0 ≤ x) : natsI (l.map Int.toNat) = l := by
  unfold natsI
  rw [List.map_map]
  conv => rhs; rw [← List.map_id l]
  refine List.map_congr_left (fun x hx => ?_)
  have := h x hx
  show ((x.toNat : Nat) : Int) = x
  omega
set_option maxHeartbeats 8000000 in
set_option maxRecDepth 100000 in
theorem spectrum2_calls {n : Nat} {l : List Nat} {A : Option Addr} {c : Nat} (h2 : 2 ≤ n) (h16 : n ≤ 16) (hl : l.length = n) (hlq : ∀ x ∈ l, x < qF n) (w : World) (hr : Kd.C (Kd.int .i64) w A (natsI l).length (natsI l)) (hc : l.length ≤ c) :
    Calls Tryd.prog 54 #[.int .i64 (n : Int), .slice A l.length c] w fun e w' => ∃ v, e = .returned (.tuple #[v, .int .i64 0]) ∧ Kd.R (Kd.int .i64) 3 w' w.heap.size (fun _ => True) v (wheelL n (qF n) (turnedV (qF n) n (wF n) l)) ∧ Below w.heap.size w w' := by
  have HF := Aside0.mk (field_at h2 h16)
  have ha : Below w.heap.size w (w.alloc (.cells #[.slice A l.length c] 22)) := below_alloc (Below.refl _ _) _
  have hcell := cells_new w #[.slice A l.length c] 22 0
  have HRD := Aside0.mk (read_good h2 h16 (.slice (some ⟨w.heap.size, 0, none⟩) 1 1) (w.alloc (.cells #[.slice A l.length c] 22)) (fun Bn BF V hV hb => containsR _ _ _ _ (indexR_one _ _ w.heap.size (.slice A l.length c) V (fun args W => enters_ Tryd.func109 (by kernel_rfl) rfl args W) (cell_to hcell hb) (fun V2 hb2 => read1_calls (by omega) hl hlq V2 (hV.to hb2) (Kd.C_below (Kd.C_below hr ha) (below_step hb hb2)) hc))))
  have HB0 := Aside0.mk ha
  have HR := Aside0.mk hr
  have HSP := Aside0.mk (fun (V : World) (hb : Below w.heap.size w V) => spectrum_calls n (qF n) (wF n) l A c (by omega) h16 (by have := HF.out; omega) (by have := HF.out; omega) HF.out.2.2.2.1 (by omega) hlq V (Kd.C_below HR.out hb))
  rw [hl] at HRD HSP HB0 ⊢
  obtain ⟨Q, hQ⟩ : ∃ x, qF n = x := ⟨_, rfl⟩
  obtain ⟨Wf, hWf⟩ : ∃ x, wF n = x := ⟨_, rfl⟩
  simp only [hQ, hWf] at HRD HSP ⊢
  clear h2 h16 hlq hr ha hcell hl hQ hWf
  go_enter Tryd.func54, Tryd.ntmps54
  go_wp2_with fail
  refine HRD.out.mono ?_
  rintro e w1 ⟨rfl, hb1⟩
  have H1 := Aside0.mk (show Below w.heap.size w (w1.alloc (.cells #[.int .i64 (n : Int), .int .i64 (Q : Int), .int .i64 (Wf : Int)] 80)) from below_alloc (below_step HB0.out hb1) _)
  clear hb1
  go_wp2_with fail
  refine (HSP.out _ H1.out).mono ?_
  rintro e w5 ⟨v, rfl, hR5, hb5⟩
  have H5 := Aside0.mk (And.intro (Kd.R_lower hR5 (below_size H1.out)) (below_step H1.out hb5))
  clear hR5 hb5
  go_wp2_with fail
  exact bodyPost_ret (results_tmp2 rfl _ _ _) rfl ⟨v, rfl, H5.out.1, H5.out.2⟩
theorem wheels_Spectrum.calls (a0 : Int) (A1 : Option Addr) (c1 : Nat) (l1 : List Int) (r1 : List Int) (r2 : Int) (w : World) (hr1 : Kd.C (Kd.int .i64) w A1 l1.length l1) (hc1 : l1.length ≤ c1) (h : wheels_Spectrum.f a0 l1 = some (r1, r2)) :
    Calls Tryd.prog 54 #[.int .i64 a0, .slice A1 l1.length c1] w fun e w' => ∃ v0_ : Value, e = .returned (.tuple #[v0_, .int .i64 r2]) ∧ Kd.R (Kd.int .i64) 3 w' w.heap.size (fun _ => True) v0_ r1 ∧ Below w.heap.size w w' := by
  unfold wheels_Spectrum.f at h
  by_cases hd : 2 ≤ a0 ∧ a0 ≤ 16 ∧ l1.length = a0.toNat ∧ ∀ x ∈ l1, 0 ≤ x ∧ x < (qF a0.toNat : Int)
  · rw [if_pos hd] at h
    injection h with h
    injection h with e1 e2
    subst e1
    subst e2
    obtain ⟨n, rfl⟩ : ∃ n : Nat, a0 = (n : Int) := ⟨a0.toNat, by omega⟩
    rw [Int.toNat_natCast] at hd ⊢
    have hn := natsI_toNat (fun x hx => (hd.2.2.2 x hx).1)
    have hl : (l1.map Int.toNat).length = l1.length := List.length_map _
    have := spectrum2_calls (n := n) (l := l1.map Int.toNat) (A := A1) (c := c1) (by omega) (by omega) (by rw [hl]; exact hd.2.2.1) (fun x hx => by
      obtain ⟨y, hy, rfl⟩ := List.mem_map.1 hx
      have := hd.2.2.2 y hy
      omega) w (by rw [hn]; exact hr1) (by rw [hl]; exact hc1)
    rw [hl] at this
    exact this
  · rw [if_neg hd] at h
    cases h

end Go.Proofs.YtfpnojcbhbkfaaaDoor.P
namespace Go.Proofs.YtfpnojcbhbkfaaaDoor.P
open Go.RowKit Go.Proofs.YtfpnojcbhbkfaaaDoorW.PrintWords Go.Proofs.YtfpnojcbhbkfaaaDoorW.PrintLast Go.Proofs.YtfpnojcbhbkfaaaDoorW.PrintMore
attribute [local go_sem] max2_int min2_int max_two min_two max_three min_three max_four min_four   -- for this text's walks alone
set_option linter.unusedVariables false
set_option linter.unusedSimpArgs false

/-! wheels.Chord, Move and Turn -/
def wheels_Chord.f (a0 a1 : Int) : Option (List Int × Int) := if 2 ≤ a0 ∧ a0 ≤ 16 ∧ 0 ≤ a1 ∧ a1 < (2 : Int) ^ a0.toNat then some (natsI (bitsL a0.toNat a1.toNat), 0) else some ([], 2)
set_option maxHeartbeats 8000000 in
set_option maxRecDepth 100000 in
theorem chord_good {n s : Nat} (h2 : 2 ≤ n) (h16 : n ≤ 16) (hs : s < 2 ^ n) (w : World) :
    Calls Tryd.prog 36 #[.int .i64 (n : Int), .int .i64 (s : Int)] w fun e w' => ∃ v, e = .returned (.tuple #[v, .int .i64 0]) ∧ Kd.R (Kd.int .i64) 3 w' w.heap.size (fun _ => True) v (natsI (bitsL n s)) ∧ Below w.heap.size w w' := by
  have HF := Aside0.mk (field_at h2 h16)
  have HCH := Aside0.mk (chords_good (R := w.heap.size) h2 h16 hs (w.alloc (.cells #[.int .i64 (s : Int)] 3)) (cells_new _ _ _ _))
  have HB0 := Aside0.mk (show Below w.heap.size w (w.alloc (.cells #[.int .i64 (s : Int)] 3)) from below_alloc (Below.refl _ _) _)
  clear hs h2 h16
  obtain ⟨Q, hQ⟩ : ∃ x, qF n = x := ⟨_, rfl⟩
  obtain ⟨Wf, hWf⟩ : ∃ x, wF n = x := ⟨_, rfl⟩
  rw [hQ, hWf] at HCH
  have hq2 : 2 ≤ Q := by have := HF.out; omega
  clear hQ hWf
  go_enter Tryd.func36, Tryd.ntmps36
  go_wp2_with fail
  refine HCH.out.mono ?_
  rintro e w1 ⟨G, c, v, rfl, hG, hR, hb⟩
  rw [wheel_bits hq2] at hR
  have ha : Below w1.heap.size w1 (w1.alloc (.cells #[.int .i64 (n : Int), .int .i64 (Q : Int), .int .i64 (Wf : Int)] 80)) := below_alloc (Below.refl _ _) _
  have H1 := Aside0.mk (show Kd.R (Kd.int .i64) 3 (w1.alloc (.cells #[.int .i64 (n : Int), .int .i64 (Q : Int), .int .i64 (Wf : Int)] 80)) w.heap.size (fun _ => True) v (natsI (bitsL n s)) ∧ Below w.heap.size w (w1.alloc (.cells #[.int .i64 (n : Int), .int .i64 (Q : Int), .int .i64 (Wf : Int)] 80)) from ⟨Kd.R_below (Kd.R_lower hR (below_size HB0.out)) ha, below_step (below_step HB0.out hb) ha⟩)
  have hG2 := cell_to hG ha
  clear hG hR hb ha
  go_wp2_with fail
  exact bodyPost_ret (results_tmp2 rfl _ _ _) rfl ⟨v, rfl, H1.out.1, H1.out.2⟩
set_option maxHeartbeats 8000000 in
set_option maxRecDepth 100000 in
theorem chord_bad (a s : Int) (h : ¬ (2 ≤ a ∧ a ≤ 16 ∧ 0 ≤ s ∧ s < (2 : Int) ^ a.toNat)) (w : World) : Calls Tryd.prog 36 #[.int .i64 a, .int .i64 s] w fun e w' => e = .returned (.tuple #[.slice none 0 0, .int .i64 2]) ∧ Below w.heap.size w w' := by
  have HCH := Aside0.mk (show Calls Tryd.prog 61 #[.int .i64 a, .slice (some ⟨w.heap.size, 0, none⟩) 1 1] (w.alloc (.cells #[.int .i64 s] 3)) (fun e w' => (∃ x y z : Int, e = .returned (.tuple #[.agg #[.int .i64 x, .int .i64 y, .int .i64 z], .slice none 0 0, .bool false])) ∧ Below (w.alloc (.cells #[.int .i64 s] 3)).heap.size (w.alloc (.cells #[.int .i64 s] 3)) w') from by
    by_cases hn : a < 2 ∨ a > 16
    · exact chords_none hn _ (cells_new _ _ _ _)
    · obtain ⟨n, rfl⟩ : ∃ n : Nat, a = (n : Int) := ⟨a.toNat, by omega⟩
      rw [Int.toNat_natCast] at h
      refine chords_far (by omega) (by omega) ?_ _ (cells_new _ _ _ _)
      by_cases hs : s < 0
      · exact .inl hs
      · right
        refine Int.not_lt.1 (fun hlt => h ⟨by omega, by omega, by omega, hlt⟩))
  have HB0 := Aside0.mk (show Below w.heap.size w (w.alloc (.cells #[.int .i64 s] 3)) from below_alloc (Below.refl _ _) _)
  clear h
  go_enter Tryd.func36, Tryd.ntmps36
  go_wp2_with fail
  refine HCH.out.mono ?_
  rintro e w1 ⟨⟨x, y, z, rfl⟩, hb⟩
  have H1 := Aside0.mk (show Below w.heap.size w (w1.alloc (.cells #[.int .i64 x, .int .i64 y, .int .i64 z] 80)) from below_alloc (below_step HB0.out hb) _)
  clear hb
  go_wp2_with fail
  exact bodyPost_ret (results_tmp2 rfl _ _ _) rfl ⟨rfl, H1.out⟩
theorem wheels_Chord.calls (a0 a1 : Int) (r1 : List Int) (r2 : Int) (w : World) (h : wheels_Chord.f a0 a1 = some (r1, r2)) :
    Calls Tryd.prog 36 #[.int .i64 a0, .int .i64 a1] w fun e w' => ∃ v0_ : Value, e = .returned (.tuple #[v0_, .int .i64 r2]) ∧ Kd.R (Kd.int .i64) 3 w' w.heap.size (fun _ => True) v0_ r1 ∧ Below w.heap.size w w' := by
  unfold wheels_Chord.f at h
  by_cases hd : 2 ≤ a0 ∧ a0 ≤ 16 ∧ 0 ≤ a1 ∧ a1 < (2 : Int) ^ a0.toNat
  · rw [if_pos hd] at h
    injection h with h
    injection h with e1 e2
    subst e1
    subst e2
    obtain ⟨n, rfl⟩ : ∃ n : Nat, a0 = (n : Int) := ⟨a0.toNat, by omega⟩
    obtain ⟨s, rfl⟩ : ∃ s : Nat, a1 = (s : Int) := ⟨a1.toNat, by omega⟩
    rw [Int.toNat_natCast] at hd ⊢
    rw [Int.toNat_natCast]
    exact chord_good (by omega) (by omega) (by exact_mod_cast hd.2.2.2) w
  · rw [if_neg hd] at h
    injection h with h
    injection h with e1 e2
    subst e1
    subst e2
    refine (chord_bad a0 a1 hd w).mono ?_
    rintro e w' ⟨rfl, hb⟩
    exact ⟨_, rfl, Kd.R_nil _ _ _ _ _, hb⟩
/-- a wheel moved by k -/
def movV (n : Nat) (l : List Nat) (k x : Nat) : Nat := l.getD ((x + (n - k)) % n) 0
/-- a wheel turned -/
def trnV (n : Nat) (l : List Nat) (x : Nat) : Nat := l.getD ((n - x) % n) 0
theorem rd_natsI (l : List Nat) (i : Nat) : rd (natsI l) (i : Int) = (l.getD i 0 : Int) := by
  unfold rd natsI
  rw [Int.toNat_natCast, List.getD_eq_getElem?_getD, List.getD_eq_getElem?_getD, List.getElem?_map]
  cases l[i]? <;> rfl
structure MvAt (n k : Nat) (l : List Nat) (Bn Bl Bk : Nat) (A : Option Addr) (c : Nat) (w : World) : Prop where
  n0 : w.cell? ⟨Bn, 0, none⟩ = some (.int .i64 (n : Int))
  l0 : w.cell? ⟨Bl, 0, none⟩ = some (.slice A l.length c)
  k0 : w.cell? ⟨Bk, 0, none⟩ = some (.int .i64 (k : Int))
  r : Kd.C (Kd.int .i64) w A (natsI l).length (natsI l)
theorem MvAt.to {n k : Nat} {l : List Nat} {Bn Bl Bk : Nat} {A : Option Addr} {c : Nat} {w W : World} (h : MvAt n k l Bn Bl Bk A c w) (hb : Below w.heap.size w W) : MvAt n k l Bn Bl Bk A c W :=
  ⟨cell_to h.n0 hb, cell_to h.l0 hb, cell_to h.k0 hb, Kd.C_below h.r hb⟩
set_option maxHeartbeats 8000000 in
set_option maxRecDepth 100000 in
theorem move1_calls (n k : Nat) (l : List Nat) (Bn Bl Bk : Nat) (A : Option Addr) (c x : Nat) (hn : n ≤ 16) (hk : k < n) (hl : l.length = n) (hx : x < n) (w : World) (h : MvAt n k l Bn Bl Bk A c w) :
    Calls Tryd.prog 73 #[.int .i64 (x : Int), .pointer (some ⟨Bl, 0, none⟩), .pointer (some ⟨Bk, 0, none⟩), .pointer (some ⟨Bn, 0, none⟩)] w fun e w' => e = .returned (.int .i64 (movV n l k x : Int)) ∧ Below w.heap.size w w' := by
  obtain ⟨i, hi⟩ : ∃ i, i = (x + (n - k)) % n := ⟨_, rfl⟩
  have hin : i < n := by rw [hi]; exact Nat.mod_lt _ (by omega)
  have hv : movV n l k x = l.getD i 0 := by unfold movV; rw [← hi]
  obtain ⟨v, hvv⟩ : ∃ v, v = l.getD i 0 := ⟨_, rfl⟩
  obtain ⟨ad, ead, hcell⟩ := Kd.at_int h.r (i : Int) (by omega) (by rw [natsI_len]; omega)
  rw [rd_natsI, Int.toNat_natCast, ← hvv] at hcell
  rw [hv, ← hvv]
  have hm : Int.tmod (wrap64 (wrap64 ((x : Int) - (k : Int)) + (n : Int))) (n : Int) = (i : Int) := by
    rw [wrap_id (n := (x : Int) - (k : Int)) (by omega) (by omega), wrap_id (by omega) (by omega), show (x : Int) - (k : Int) + (n : Int) = ((x + (n - k) : Nat) : Int) by omega, Int.tmod_eq_emod_of_nonneg (by omega), ← Int.natCast_emod, hi]
  have hl0 := h.l0
  have hk0 := h.k0
  have hn0 := h.n0
  cases ead
  rw [hl] at hl0
  have hS0 : w.drew.cell? ⟨Bl, 0, none⟩ = some (.slice (some ad) n c) ∧ w.drew.cell? ⟨Bk, 0, none⟩ = some (.int .i64 (k : Int)) ∧ w.drew.cell? ⟨Bn, 0, none⟩ = some (.int .i64 (n : Int)) ∧ w.drew.cell? (ad.add i) = some (.int .i64 (v : Int)) := ⟨hl0, hk0, hn0, hcell⟩
  have hnz : ¬ (n : Int) = 0 := by omega
  have hnzn : ¬ n = 0 := by omega
  have hiz : (i : Int) < (n : Int) := by omega
  have hi0 : (0 : Int) ≤ (i : Int) := by omega
  clear hi hv hvv h hl0 hk0 hn0 hcell
  go_enter Tryd.func73, Tryd.ntmps73
  go_wp2_with fail
  refine start_ (n := 11) (S := (fun w' => w'.cell? ⟨Bl, 0, none⟩ = some (.slice (some ad) n c) ∧ w'.cell? ⟨Bk, 0, none⟩ = some (.int .i64 (k : Int)) ∧ w'.cell? ⟨Bn, 0, none⟩ = some (.int .i64 (n : Int)) ∧ w'.cell? (ad.add i) = some (.int .i64 (v : Int)))) (ds := []) #[false, false, false, false, false, false, false, false, false, false, false] (by kernel_rfl) rfl rfl hS0 (fun _ => ?_)
  refine pure_ (i := 1) (N := some 7) (v := ?_) (a' := ?_) #[false, true, false, false, false, false, false, false, false, false, false] rfl rfl (by kernel_rfl) (fun _ _ _ h => h) (Or.inl ⟨by rfl, ?_⟩) ?_ ?_
  rotate_left
  · intro w'
    go_simp
    with_reducible rfl
  rotate_left
  · simp only [Act.put, List.setIfInBounds_toArray, List.set_cons_zero, List.set_cons_succ, i64_w, i32_w]
    rfl
  refine take_ (i := 0) (N := some 6) (v := ?_) (a' := ?_) #[true, true, false, false, false, false, false, false, false, false, false] rfl rfl (by kernel_rfl) (fun _ _ _ h => h) (Or.inl ⟨by rfl, ?_⟩) hS0 ?_ ?_
  rotate_left
  · rintro w' ⟨k0', k1', k2', k3'⟩
    go_simp
    with_reducible rfl
  rotate_left
  · simp only [Act.put, List.setIfInBounds_toArray, List.set_cons_zero, List.set_cons_succ, i64_w, i32_w]
    rfl
  refine take_ (i := 2) (N := some 8) (v := ?_) (a' := ?_) #[true, true, true, false, false, false, false, false, false, false, false] rfl rfl (by kernel_rfl) (fun _ _ _ h => h) (Or.inl ⟨by rfl, ?_⟩) hS0 ?_ ?_
  rotate_left
  · rintro w' ⟨k0', k1', k2', k3'⟩
    go_simp
    with_reducible rfl
  rotate_left
  · simp only [Act.put, List.setIfInBounds_toArray, List.set_cons_zero, List.set_cons_succ, i64_w, i32_w]
    rfl
  refine take_ (i := 4) (N := some 10) (v := ?_) (a' := ?_) #[true, true, true, false, true, false, false, false, false, false, false] rfl rfl (by kernel_rfl) (fun _ _ _ h => h) (Or.inl ⟨by rfl, ?_⟩) hS0 ?_ ?_
  rotate_left
  · rintro w' ⟨k0', k1', k2', k3'⟩
    go_simp
    with_reducible rfl
  rotate_left
  · simp only [Act.put, List.setIfInBounds_toArray, List.set_cons_zero, List.set_cons_succ, i64_w, i32_w]
    rfl
  refine take_ (i := 6) (N := some 12) (v := ?_) (a' := ?_) #[true, true, true, false, true, false, true, false, false, false, false] rfl rfl (by kernel_rfl) (fun _ _ _ h => h) (Or.inl ⟨by rfl, ?_⟩) hS0 ?_ ?_
  rotate_left
  · rintro w' ⟨k0', k1', k2', k3'⟩
    go_simp
    with_reducible rfl
  rotate_left
  · simp only [Act.put, List.setIfInBounds_toArray, List.set_cons_zero, List.set_cons_succ, i64_w, i32_w]
    rfl
  refine pure_ (i := 3) (N := some 9) (v := ?_) (a' := ?_) #[true, true, true, true, true, false, true, false, false, false, false] rfl rfl (by kernel_rfl) (fun _ _ _ h => h) (Or.inl ⟨by rfl, ?_⟩) ?_ ?_
  rotate_left
  · intro w'
    go_simp
    with_reducible rfl
  rotate_left
  · simp only [Act.put, List.setIfInBounds_toArray, List.set_cons_zero, List.set_cons_succ, i64_w, i32_w]
    rfl
  refine pure_ (i := 5) (N := some 11) (v := ?_) (a' := ?_) #[true, true, true, true, true, true, true, false, false, false, false] rfl rfl (by kernel_rfl) (fun _ _ _ h => h) (Or.inl ⟨by rfl, ?_⟩) ?_ ?_
  rotate_left
  · intro w'
    go_simp
    with_reducible rfl
  rotate_left
  · simp only [Act.put, List.setIfInBounds_toArray, List.set_cons_zero, List.set_cons_succ, i64_w, i32_w]
    rfl
  refine pure_ (i := 7) (N := some 13) (v := ?_) (a' := ?_) #[true, true, true, true, true, true, true, true, false, false, false] rfl rfl (by kernel_rfl) (fun _ _ _ h => h) (Or.inl ⟨by rfl, ?_⟩) ?_ ?_
  rotate_left
  · intro w'
    go_simp
    with_reducible rfl
  rotate_left
  · simp only [Act.put, List.setIfInBounds_toArray, List.set_cons_zero, List.set_cons_succ, i64_w, i32_w]
    rfl
  try rw [hm]
  refine pure_ (i := 8) (N := some 14) (v := ?_) (a' := ?_) #[true, true, true, true, true, true, true, true, true, false, false] rfl rfl (by kernel_rfl) (fun _ _ _ h => h) (Or.inl ⟨by rfl, ?_⟩) ?_ ?_
  rotate_left
  · intro w'
    go_simp
    with_reducible rfl
  rotate_left
  · simp only [Act.put, List.setIfInBounds_toArray, List.set_cons_zero, List.set_cons_succ, i64_w, i32_w]
    rfl
  refine take_ (i := 9) (N := some 15) (v := ?_) (a' := ?_) #[true, true, true, true, true, true, true, true, true, true, false] rfl rfl (by kernel_rfl) (fun _ _ _ h => h) (Or.inl ⟨by rfl, ?_⟩) hS0 ?_ ?_
  rotate_left
  · rintro w' ⟨k0', k1', k2', k3'⟩
    go_simp
    with_reducible rfl
  rotate_left
  · simp only [Act.put, List.setIfInBounds_toArray, List.set_cons_zero, List.set_cons_succ, i64_w, i32_w]
    rfl
  refine pure_ (i := 10) (N := some 5) (v := ?_) (a' := ?_) #[true, true, true, true, true, true, true, true, true, true, true] rfl rfl (by kernel_rfl) (fun _ _ _ h => h) (Or.inl ⟨by rfl, ?_⟩) ?_ ?_
  rotate_left
  · intro w'
    go_simp
    with_reducible rfl
  rotate_left
  · simp only [Act.put, List.setIfInBounds_toArray, List.set_cons_zero, List.set_cons_succ, i64_w, i32_w]
    rfl
  refine done_ (by kernel_rfl) ?_
  go_wp2
  go_ret
  exact ⟨rfl, below_drew (Below.refl _ _)⟩
theorem getD_lt {l : List Nat} {q : Nat} (hq : 1 ≤ q) (h : ∀ x ∈ l, x < q) (i : Nat) : l.getD i 0 < q := by
  rw [List.getD_eq_getElem?_getD]
  cases e : l[i]? with
  | none => exact hq
  | some v => exact h v (List.mem_of_getElem? e)
theorem three_new (w : World) (v1 v2 v3 : Value) (t1 t2 t3 : TypeId) : (((w.alloc (.cells #[v1] t1)).alloc (.cells #[v2] t2)).alloc (.cells #[v3] t3)).cell? ⟨w.heap.size, 0, none⟩ = some v1 ∧ (((w.alloc (.cells #[v1] t1)).alloc (.cells #[v2] t2)).alloc (.cells #[v3] t3)).cell? ⟨w.heap.size + 1, 0, none⟩ = some v2 ∧ (((w.alloc (.cells #[v1] t1)).alloc (.cells #[v2] t2)).alloc (.cells #[v3] t3)).cell? ⟨w.heap.size + 1 + 1, 0, none⟩ = some v3 ∧
    (((w.alloc (.cells #[v1] t1)).alloc (.cells #[v2] t2)).alloc (.cells #[v3] t3)).frozen? ⟨w.heap.size + 1 + 1, 0, none⟩ = false ∧ Below w.heap.size w (((w.alloc (.cells #[v1] t1)).alloc (.cells #[v2] t2)).alloc (.cells #[v3] t3)) ∧ (((w.alloc (.cells #[v1] t1)).alloc (.cells #[v2] t2)).alloc (.cells #[v3] t3)).heap.size = w.heap.size + 1 + 1 + 1 := by
  have s1 : (w.alloc (.cells #[v1] t1)).heap.size = w.heap.size + 1 := World.size_alloc _ _
  have s2 : ((w.alloc (.cells #[v1] t1)).alloc (.cells #[v2] t2)).heap.size = w.heap.size + 1 + 1 := by rw [World.size_alloc, s1]
  have c1 := cells_new w #[v1] t1 0
  have c2 := cells_new (w.alloc (.cells #[v1] t1)) #[v2] t2 0
  have c3 := cells_new ((w.alloc (.cells #[v1] t1)).alloc (.cells #[v2] t2)) #[v3] t3 0
  have f3 := frz_new ((w.alloc (.cells #[v1] t1)).alloc (.cells #[v2] t2)) #[v3] t3 0
  rw [s1] at c2
  rw [s2] at c3 f3
  have ha : ∀ (W : World) (o : Obj), Below W.heap.size W (W.alloc o) := fun W o => below_alloc (Below.refl _ _) o
  exact ⟨cell_to (cell_to c1 (ha _ _)) (ha _ _), cell_to c2 (ha _ _), c3, f3, below_alloc (below_alloc (below_alloc (Below.refl _ _) _) _) _, by rw [World.size_alloc, s2]⟩
/-- a circle's field read with one fit wheel, in a world behind w -/
theorem read_row {n : Nat} {l : List Nat} {A : Option Addr} {c : Nat} (h2 : 2 ≤ n) (h16 : n ≤ 16) (hl : l.length = n) (hlq : ∀ x ∈ l, x < qF n) (w W : World) (hr : Kd.C (Kd.int .i64) w A (natsI l).length (natsI l)) (hc : l.length ≤ c) (hb : Below w.heap.size w W) :
    Calls Tryd.prog 71 #[.int .i64 (n : Int), .slice (some ⟨W.heap.size, 0, none⟩) 1 1] (W.alloc (.cells #[.slice A l.length c] 22)) fun e w' => e = .returned (.tuple #[.agg #[.int .i64 (n : Int), .int .i64 (qF n : Int), .int .i64 (wF n : Int)], .bool true]) ∧ Below W.heap.size W w' := by
  have ha : Below W.heap.size W (W.alloc (.cells #[.slice A l.length c] 22)) := below_alloc (Below.refl _ _) _
  have hcell := cells_new W #[.slice A l.length c] 22 0
  refine (read_good h2 h16 (.slice (some ⟨W.heap.size, 0, none⟩) 1 1) (W.alloc (.cells #[.slice A l.length c] 22)) (fun Bn BF V hV hb1 => containsR _ _ _ _ (indexR_one _ _ W.heap.size (.slice A l.length c) V (fun args W => enters_ Tryd.func109 (by kernel_rfl) rfl args W) (cell_to hcell hb1) (fun V2 hb2 => read1_calls (by omega) hl hlq V2 (hV.to hb2) (Kd.C_below (Kd.C_below hr (below_step hb ha)) (below_step hb1 hb2)) hc)))).mono ?_
  rintro e w' ⟨rfl, hb2⟩
  exact ⟨rfl, below_step ha hb2⟩
set_option maxHeartbeats 8000000 in
set_option maxRecDepth 100000 in
theorem wmove_good {n k : Nat} {l : List Nat} {A : Option Addr} {c : Nat} (h2 : 2 ≤ n) (h16 : n ≤ 16) (hk : k < n) (hl : l.length = n) (hlq : ∀ x ∈ l, x < qF n) (w : World) (hr : Kd.C (Kd.int .i64) w A (natsI l).length (natsI l)) (hc : l.length ≤ c) :
    Calls Tryd.prog 38 #[.int .i64 (n : Int), .slice A l.length c, .int .i64 (k : Int)] w fun e w' => ∃ v, e = .returned (.tuple #[v, .int .i64 0]) ∧ Kd.R (Kd.int .i64) 3 w' w.heap.size (fun _ => True) v (wheelL n (qF n) (movV n l k)) ∧ Below w.heap.size w w' := by
  have HF := Aside0.mk (field_at h2 h16)
  obtain ⟨m0, m1, m2, mf, mb, ms⟩ := three_new w (.int .i64 (n : Int)) (.slice A l.length c) (.int .i64 (k : Int)) 3 22 3
  have HRD := Aside0.mk (read_row h2 h16 hl hlq w (((w.alloc (.cells #[.int .i64 (n : Int)] 3)).alloc (.cells #[.slice A l.length c] 22)).alloc (.cells #[.int .i64 (k : Int)] 3)) hr hc mb)
  rw [ms] at HRD
  have HR := Aside0.mk hr
  have HWH := Aside0.mk (fun (V : World) (hV : MvAt n k l w.heap.size (w.heap.size + 1) (w.heap.size + 1 + 1) A c V) => wheel_calls n (qF n) (wF n) 73 (by omega) (by have := HF.out; omega) (by have := HF.out; omega) #[.pointer (some ⟨w.heap.size + 1, 0, none⟩), .pointer (some ⟨w.heap.size + 1 + 1, 0, none⟩), .pointer (some ⟨w.heap.size, 0, none⟩)] (movV n l k) (fun x _ => by
    have := getD_lt (l := l) (q := qF n) (by have := HF.out; omega) hlq ((x + (n - k)) % n)
    have := HF.out
    unfold movV
    omega) V (fun args W => enters_ Tryd.func73 (by kernel_rfl) rfl args W) (fun W x hx hb => move1_calls n k l _ _ _ A c x h16 hk hl hx W (hV.to hb)))
  have HM := Aside0.mk (show MvAt n k l w.heap.size (w.heap.size + 1) (w.heap.size + 1 + 1) A c (((w.alloc (.cells #[.int .i64 (n : Int)] 3)).alloc (.cells #[.slice A l.length c] 22)).alloc (.cells #[.int .i64 (k : Int)] 3)) ∧ (((w.alloc (.cells #[.int .i64 (n : Int)] 3)).alloc (.cells #[.slice A l.length c] 22)).alloc (.cells #[.int .i64 (k : Int)] 3)).frozen? ⟨w.heap.size + 1 + 1, 0, none⟩ = false ∧ Below w.heap.size w (((w.alloc (.cells #[.int .i64 (n : Int)] 3)).alloc (.cells #[.slice A l.length c] 22)).alloc (.cells #[.int .i64 (k : Int)] 3)) from ⟨⟨m0, m1, m2, Kd.C_below hr mb⟩, mf, mb⟩)
  have HN := Aside0.mk (show 2 ≤ n ∧ n ≤ 16 ∧ k < n ∧ l.length = n from ⟨h2, h16, hk, hl⟩)
  obtain ⟨Q, hQ⟩ : ∃ x, qF n = x := ⟨_, rfl⟩
  obtain ⟨Wf, hWf⟩ : ∃ x, wF n = x := ⟨_, rfl⟩
  simp only [hQ, hWf] at HRD HWH ⊢
  have hmf : ∀ (fn : Fn) (first cap : Array Value) (w : World), (Instr.makeFunc fn first cap).run Tryd.prog w = .ok (.func fn first cap) w := fun _ _ _ _ => rfl
  clear h2 hlq hr hc m0 m1 m2 mf mb ms hQ hWf hl
  go_enter Tryd.func38, Tryd.ntmps38
  go_wp2_with fail
  refine HRD.out.mono ?_
  rintro e w1 ⟨rfl, hb1⟩
  have hge : w.heap.size ≤ w.heap.size + 1 + 1 + 1 := by omega
  have H1 := Aside0.mk (show MvAt n k l w.heap.size (w.heap.size + 1) (w.heap.size + 1 + 1) A c (w1.alloc (.cells #[.int .i64 (n : Int), .int .i64 (Q : Int), .int .i64 (Wf : Int)] 80)) ∧ (w1.alloc (.cells #[.int .i64 (n : Int), .int .i64 (Q : Int), .int .i64 (Wf : Int)] 80)).frozen? ⟨w.heap.size + 1 + 1, 0, none⟩ = false ∧ Below w.heap.size w (w1.alloc (.cells #[.int .i64 (n : Int), .int .i64 (Q : Int), .int .i64 (Wf : Int)] 80)) from by
    have hs := (three_new w (.int .i64 (n : Int)) (.slice A l.length c) (.int .i64 (k : Int)) 3 22 3).2.2.2.2.2
    rw [← hs] at hb1
    have ha : Below w1.heap.size w1 (w1.alloc (.cells #[.int .i64 (n : Int), .int .i64 (Q : Int), .int .i64 (Wf : Int)] 80)) := below_alloc (Below.refl _ _) _
    have hb2 := below_step hb1 ha
    exact ⟨HM.out.1.to hb2, frz_to HM.out.1.k0 HM.out.2.1 hb2, below_step HM.out.2.2 hb2⟩)
  have hc3 := fun i => cells_new w1 #[.int .i64 (n : Int), .int .i64 (Q : Int), .int .i64 (Wf : Int)] 80 i
  obtain ⟨W2, hW2⟩ : ∃ W2, (w1.alloc (.cells #[.int .i64 (n : Int), .int .i64 (Q : Int), .int .i64 (Wf : Int)] 80)) = W2 := ⟨_, rfl⟩
  obtain ⟨BF, hBF⟩ : ∃ B, w1.heap.size = B := ⟨_, rfl⟩
  rw [hW2] at H1 hc3
  rw [hBF] at hc3
  have HBF := Aside0.mk (show w.heap.size + 1 + 1 ≠ BF from by
    have hs := (three_new w (.int .i64 (n : Int)) (.slice A l.length c) (.int .i64 (k : Int)) 3 22 3).2.2.2.2.2
    have hz := hb1.size
    rw [hs] at hz
    omega)
  clear hb1
  go_wp2_with fail
  try rw [hW2, hBF]
  clear hW2 hBF
  have f0 : W2.cell? ⟨BF, 0, none⟩ = some (.int .i64 (n : Int)) := hc3 0
  have f1 : W2.cell? ⟨BF, 1, none⟩ = some (.int .i64 (Q : Int)) := hc3 1
  have f2 : W2.cell? ⟨BF, 2, none⟩ = some (.int .i64 (Wf : Int)) := hc3 2
  have hS0 : W2.drew.cell? ⟨w.heap.size, 0, none⟩ = some (.int .i64 (n : Int)) ∧ W2.drew.cell? ⟨w.heap.size + 1 + 1, 0, none⟩ = some (.int .i64 (k : Int)) := ⟨H1.out.1.n0, H1.out.1.k0⟩
  have hfz := H1.out.2.1
  have hm : Int.tmod (wrap64 (Int.tmod (k : Int) (n : Int) + (n : Int))) (n : Int) = (k : Int) := by
    have := HN.out
    rw [Int.tmod_eq_emod_of_nonneg (a := (k : Int)) (by omega), ← Int.natCast_emod, Nat.mod_eq_of_lt this.2.2.1, wrap_id (by omega) (by omega), ← Int.natCast_add, Int.tmod_eq_emod_of_nonneg (by omega), ← Int.natCast_emod, Nat.add_mod_right, Nat.mod_eq_of_lt this.2.2.1]
  have hnz : ¬ (n : Int) = 0 := by have := HN.out; omega
  have hnzn : ¬ n = 0 := by have := HN.out; omega
  clear hc3
  refine start_ (n := 8) (S := (fun w' => w'.cell? ⟨w.heap.size, 0, none⟩ = some (.int .i64 (n : Int)) ∧ w'.cell? ⟨w.heap.size + 1 + 1, 0, none⟩ = some (.int .i64 (k : Int)))) (ds := [7]) #[false, false, false, false, false, false, false, false] (by kernel_rfl) rfl rfl hS0 (fun _ => ?_)
  refine take_ (i := 0) (N := some 19) (v := ?_) (a' := ?_) #[true, false, false, false, false, false, false, false] rfl rfl (by kernel_rfl) (fun _ _ _ h => h) (Or.inl ⟨by rfl, ?_⟩) hS0 ?_ ?_
  rotate_left
  · rintro w' ⟨k0', k1'⟩
    go_simp
    with_reducible rfl
  rotate_left
  · simp only [Act.put, List.setIfInBounds_toArray, List.set_cons_zero, List.set_cons_succ, i64_w, i32_w]
    rfl
  refine take_ (i := 1) (N := some 20) (v := ?_) (a' := ?_) #[true, true, false, false, false, false, false, false] rfl rfl (by kernel_rfl) (fun _ _ _ h => h) (Or.inl ⟨by rfl, ?_⟩) hS0 ?_ ?_
  rotate_left
  · rintro w' ⟨k0', k1'⟩
    go_simp
    with_reducible rfl
  rotate_left
  · simp only [Act.put, List.setIfInBounds_toArray, List.set_cons_zero, List.set_cons_succ, i64_w, i32_w]
    rfl
  refine take_ (i := 3) (N := some 22) (v := ?_) (a' := ?_) #[true, true, false, true, false, false, false, false] rfl rfl (by kernel_rfl) (fun _ _ _ h => h) (Or.inl ⟨by rfl, ?_⟩) hS0 ?_ ?_
  rotate_left
  · rintro w' ⟨k0', k1'⟩
    go_simp
    with_reducible rfl
  rotate_left
  · simp only [Act.put, List.setIfInBounds_toArray, List.set_cons_zero, List.set_cons_succ, i64_w, i32_w]
    rfl
  refine take_ (i := 5) (N := some 24) (v := ?_) (a' := ?_) #[true, true, false, true, false, true, false, false] rfl rfl (by kernel_rfl) (fun _ _ _ h => h) (Or.inl ⟨by rfl, ?_⟩) hS0 ?_ ?_
  rotate_left
  · rintro w' ⟨k0', k1'⟩
    go_simp
    with_reducible rfl
  rotate_left
  · simp only [Act.put, List.setIfInBounds_toArray, List.set_cons_zero, List.set_cons_succ, i64_w, i32_w]
    rfl
  refine pure_ (i := 2) (N := some 21) (v := ?_) (a' := ?_) #[true, true, true, true, false, true, false, false] rfl rfl (by kernel_rfl) (fun _ _ _ h => h) (Or.inl ⟨by rfl, ?_⟩) ?_ ?_
  rotate_left
  · intro w'
    go_simp
    with_reducible rfl
  rotate_left
  · simp only [Act.put, List.setIfInBounds_toArray, List.set_cons_zero, List.set_cons_succ, i64_w, i32_w]
    rfl
  refine pure_ (i := 4) (N := some 23) (v := ?_) (a' := ?_) #[true, true, true, true, true, true, false, false] rfl rfl (by kernel_rfl) (fun _ _ _ h => h) (Or.inl ⟨by rfl, ?_⟩) ?_ ?_
  rotate_left
  · intro w'
    go_simp
    with_reducible rfl
  rotate_left
  · simp only [Act.put, List.setIfInBounds_toArray, List.set_cons_zero, List.set_cons_succ, i64_w, i32_w]
    rfl
  refine pure_ (i := 6) (N := some 25) (v := ?_) (a' := ?_) #[true, true, true, true, true, true, true, false] rfl rfl (by kernel_rfl) (fun _ _ _ h => h) (Or.inl ⟨by rfl, ?_⟩) ?_ ?_
  rotate_left
  · intro w'
    go_simp
    with_reducible rfl
  rotate_left
  · simp only [Act.put, List.setIfInBounds_toArray, List.set_cons_zero, List.set_cons_succ, i64_w, i32_w]
    rfl
  try rw [hm]
  refine last_ (i := 7) (N := none) #[true, true, true, true, true, true, true, true] rfl rfl (by kernel_rfl) (by decide) (fun K hK => ?_)
  refine skip_ (w1 := W2.drew.setCell ⟨w.heap.size + 1 + 1, 0, none⟩ (.int .i64 (k : Int))) (by rfl) rfl ?hr7 ?_
  case hr7 => first | (go_simp; done) | (go_simp; rfl)
  refine hK.out _ _ ?_
  clear hK K
  refine done_ (by kernel_rfl) ?_
  have H5 := Aside0.mk (show MvAt n k l w.heap.size (w.heap.size + 1) (w.heap.size + 1 + 1) A c (W2.drew.setCell ⟨w.heap.size + 1 + 1, 0, none⟩ (.int .i64 (k : Int))) ∧ Below w.heap.size w (W2.drew.setCell ⟨w.heap.size + 1 + 1, 0, none⟩ (.int .i64 (k : Int))) from by
    have hbb : Below w.heap.size w (W2.drew.setCell ⟨w.heap.size + 1 + 1, 0, none⟩ (.int .i64 (k : Int))) := below_set H1.out.2.2.drew (by omega)
    refine ⟨⟨(World.cell?_setCell_far _ _ _ _ (by simp only [ne_eq]; omega)).trans H1.out.1.n0, (World.cell?_setCell_far _ _ _ _ (by simp only [ne_eq]; omega)).trans H1.out.1.l0, World.cell?_setCell_same' _ _ _ (by rw [hS0.2]; rfl), Kd.C_below HR.out hbb⟩, hbb⟩)
  have g0 : (W2.drew.setCell ⟨w.heap.size + 1 + 1, 0, none⟩ (.int .i64 (k : Int))).cell? ⟨BF, 0, none⟩ = some (.int .i64 (n : Int)) := (World.cell?_setCell_far _ _ _ _ (by simp only [ne_eq]; exact fun h => HBF.out h)).trans f0
  have g1 : (W2.drew.setCell ⟨w.heap.size + 1 + 1, 0, none⟩ (.int .i64 (k : Int))).cell? ⟨BF, 1, none⟩ = some (.int .i64 (Q : Int)) := (World.cell?_setCell_far _ _ _ _ (by simp only [ne_eq]; exact fun h => HBF.out h)).trans f1
  have g2 : (W2.drew.setCell ⟨w.heap.size + 1 + 1, 0, none⟩ (.int .i64 (k : Int))).cell? ⟨BF, 2, none⟩ = some (.int .i64 (Wf : Int)) := (World.cell?_setCell_far _ _ _ _ (by simp only [ne_eq]; exact fun h => HBF.out h)).trans f2
  generalize W2.drew.setCell ⟨w.heap.size + 1 + 1, 0, none⟩ (.int .i64 (k : Int)) = W5 at H5 g0 g1 g2 ⊢
  clear f0 f1 f2 hS0 hfz hm H1 HM
  go_wp2_with fail
  refine (HWH.out _ H5.out.1).mono ?_
  rintro e w9 ⟨v, rfl, hR9, hb9⟩
  have H9 := Aside0.mk (And.intro (Kd.R_lower hR9 (below_size H5.out.2)) (below_step H5.out.2 hb9))
  clear hR9 hb9
  go_wp2_with fail
  exact bodyPost_ret (results_tmp2 rfl _ _ _) rfl ⟨v, rfl, H9.out.1, H9.out.2⟩
def wheels_Move.f (a0 : Int) (l1 : List Int) (a2 : Int) : Option (List Int × Int) := if 2 ≤ a0 ∧ a0 ≤ 16 ∧ l1.length = a0.toNat ∧ (∀ x ∈ l1, 0 ≤ x ∧ x < (qF a0.toNat : Int)) ∧ 0 ≤ a2 ∧ a2 < a0 then some (wheelL a0.toNat (qF a0.toNat) (movV a0.toNat (l1.map Int.toNat) a2.toNat), 0) else none
theorem wheels_Move.calls (a0 : Int) (A1 : Option Addr) (c1 : Nat) (l1 : List Int) (a2 : Int) (r1 : List Int) (r2 : Int) (w : World) (hr1 : Kd.C (Kd.int .i64) w A1 l1.length l1) (hc1 : l1.length ≤ c1) (h : wheels_Move.f a0 l1 a2 = some (r1, r2)) :
    Calls Tryd.prog 38 #[.int .i64 a0, .slice A1 l1.length c1, .int .i64 a2] w fun e w' => ∃ v0_ : Value, e = .returned (.tuple #[v0_, .int .i64 r2]) ∧ Kd.R (Kd.int .i64) 3 w' w.heap.size (fun _ => True) v0_ r1 ∧ Below w.heap.size w w' := by
  unfold wheels_Move.f at h
  by_cases hd : 2 ≤ a0 ∧ a0 ≤ 16 ∧ l1.length = a0.toNat ∧ (∀ x ∈ l1, 0 ≤ x ∧ x < (qF a0.toNat : Int)) ∧ 0 ≤ a2 ∧ a2 < a0
  · rw [if_pos hd] at h
    injection h with h
    injection h with e1 e2
    subst e1
    subst e2
    obtain ⟨n, rfl⟩ : ∃ n : Nat, a0 = (n : Int) := ⟨a0.toNat, by omega⟩
    obtain ⟨k, rfl⟩ : ∃ k : Nat, a2 = (k : Int) := ⟨a2.toNat, by omega⟩
    rw [Int.toNat_natCast] at hd ⊢
    rw [Int.toNat_natCast]
    have hn := natsI_toNat (fun x hx => (hd.2.2.2.1 x hx).1)
    have hl : (l1.map Int.toNat).length = l1.length := List.length_map _
    have := wmove_good (n := n) (k := k) (l := l1.map Int.toNat) (A := A1) (c := c1) (by omega) (by omega) (by omega) (by rw [hl]; exact hd.2.2.1) (fun x hx => by
      obtain ⟨y, hy, rfl⟩ := List.mem_map.1 hx
      have := hd.2.2.2.1 y hy
      omega) w (by rw [hn]; exact hr1) (by rw [hl]; exact hc1)
    rw [hl] at this
    exact this
  · rw [if_neg hd] at h
    cases h
structure TuAt (n : Nat) (l : List Nat) (Bn Bl : Nat) (A : Option Addr) (c : Nat) (w : World) : Prop where
  n0 : w.cell? ⟨Bn, 0, none⟩ = some (.int .i64 (n : Int))
  l0 : w.cell? ⟨Bl, 0, none⟩ = some (.slice A l.length c)
  r : Kd.C (Kd.int .i64) w A (natsI l).length (natsI l)
theorem TuAt.to {n : Nat} {l : List Nat} {Bn Bl : Nat} {A : Option Addr} {c : Nat} {w W : World} (h : TuAt n l Bn Bl A c w) (hb : Below w.heap.size w W) : TuAt n l Bn Bl A c W :=
  ⟨cell_to h.n0 hb, cell_to h.l0 hb, Kd.C_below h.r hb⟩
set_option maxHeartbeats 8000000 in
set_option maxRecDepth 100000 in
theorem wturn1_calls (n : Nat) (l : List Nat) (Bn Bl : Nat) (A : Option Addr) (c x : Nat) (hn : n ≤ 16) (hl : l.length = n) (hx : x < n) (w : World) (h : TuAt n l Bn Bl A c w) :
    Calls Tryd.prog 74 #[.int .i64 (x : Int), .pointer (some ⟨Bl, 0, none⟩), .pointer (some ⟨Bn, 0, none⟩)] w fun e w' => e = .returned (.int .i64 (trnV n l x : Int)) ∧ Below w.heap.size w w' := by
  obtain ⟨i, hi⟩ : ∃ i, i = (n - x) % n := ⟨_, rfl⟩
  have hin : i < n := by rw [hi]; exact Nat.mod_lt _ (by omega)
  have hv : trnV n l x = l.getD i 0 := by unfold trnV; rw [← hi]
  obtain ⟨v, hvv⟩ : ∃ v, v = l.getD i 0 := ⟨_, rfl⟩
  obtain ⟨ad, ead, hcell⟩ := Kd.at_int h.r (i : Int) (by omega) (by rw [natsI_len]; omega)
  rw [rd_natsI, Int.toNat_natCast, ← hvv] at hcell
  rw [hv, ← hvv]
  have hm : Int.tmod (wrap64 ((n : Int) - (x : Int))) (n : Int) = (i : Int) := by
    rw [wrap_id (by omega) (by omega), show (n : Int) - (x : Int) = ((n - x : Nat) : Int) by omega, Int.tmod_eq_emod_of_nonneg (by omega), ← Int.natCast_emod, hi]
  have hl0 := h.l0
  have hn0 := h.n0
  cases ead
  rw [hl] at hl0
  have hS0 : w.drew.cell? ⟨Bl, 0, none⟩ = some (.slice (some ad) n c) ∧ w.drew.cell? ⟨Bn, 0, none⟩ = some (.int .i64 (n : Int)) ∧ w.drew.cell? (ad.add i) = some (.int .i64 (v : Int)) := ⟨hl0, hn0, hcell⟩
  have hnz : ¬ (n : Int) = 0 := by omega
  have hnzn : ¬ n = 0 := by omega
  have hiz : (i : Int) < (n : Int) := by omega
  have hi0 : (0 : Int) ≤ (i : Int) := by omega
  clear hi hv hvv h hl0 hn0 hcell
  go_enter Tryd.func74, Tryd.ntmps74
  go_wp2_with fail
  refine start_ (n := 9) (S := (fun w' => w'.cell? ⟨Bl, 0, none⟩ = some (.slice (some ad) n c) ∧ w'.cell? ⟨Bn, 0, none⟩ = some (.int .i64 (n : Int)) ∧ w'.cell? (ad.add i) = some (.int .i64 (v : Int)))) (ds := []) #[false, false, false, false, false, false, false, false, false] (by kernel_rfl) rfl rfl hS0 (fun _ => ?_)
  refine pure_ (i := 2) (N := some 7) (v := ?_) (a' := ?_) #[false, false, true, false, false, false, false, false, false] rfl rfl (by kernel_rfl) (fun _ _ _ h => h) (Or.inl ⟨by rfl, ?_⟩) ?_ ?_
  rotate_left
  · intro w'
    go_simp
    with_reducible rfl
  rotate_left
  · simp only [Act.put, List.setIfInBounds_toArray, List.set_cons_zero, List.set_cons_succ, i64_w, i32_w]
    rfl
  refine take_ (i := 0) (N := some 5) (v := ?_) (a' := ?_) #[true, false, true, false, false, false, false, false, false] rfl rfl (by kernel_rfl) (fun _ _ _ h => h) (Or.inl ⟨by rfl, ?_⟩) hS0 ?_ ?_
  rotate_left
  · rintro w' ⟨k0', k1', k2'⟩
    go_simp
    with_reducible rfl
  rotate_left
  · simp only [Act.put, List.setIfInBounds_toArray, List.set_cons_zero, List.set_cons_succ, i64_w, i32_w]
    rfl
  refine take_ (i := 1) (N := some 6) (v := ?_) (a' := ?_) #[true, true, true, false, false, false, false, false, false] rfl rfl (by kernel_rfl) (fun _ _ _ h => h) (Or.inl ⟨by rfl, ?_⟩) hS0 ?_ ?_
  rotate_left
  · rintro w' ⟨k0', k1', k2'⟩
    go_simp
    with_reducible rfl
  rotate_left
  · simp only [Act.put, List.setIfInBounds_toArray, List.set_cons_zero, List.set_cons_succ, i64_w, i32_w]
    rfl
  refine take_ (i := 4) (N := some 9) (v := ?_) (a' := ?_) #[true, true, true, false, true, false, false, false, false] rfl rfl (by kernel_rfl) (fun _ _ _ h => h) (Or.inl ⟨by rfl, ?_⟩) hS0 ?_ ?_
  rotate_left
  · rintro w' ⟨k0', k1', k2'⟩
    go_simp
    with_reducible rfl
  rotate_left
  · simp only [Act.put, List.setIfInBounds_toArray, List.set_cons_zero, List.set_cons_succ, i64_w, i32_w]
    rfl
  refine pure_ (i := 3) (N := some 8) (v := ?_) (a' := ?_) #[true, true, true, true, true, false, false, false, false] rfl rfl (by kernel_rfl) (fun _ _ _ h => h) (Or.inl ⟨by rfl, ?_⟩) ?_ ?_
  rotate_left
  · intro w'
    go_simp
    with_reducible rfl
  rotate_left
  · simp only [Act.put, List.setIfInBounds_toArray, List.set_cons_zero, List.set_cons_succ, i64_w, i32_w]
    rfl
  refine pure_ (i := 5) (N := some 10) (v := ?_) (a' := ?_) #[true, true, true, true, true, true, false, false, false] rfl rfl (by kernel_rfl) (fun _ _ _ h => h) (Or.inl ⟨by rfl, ?_⟩) ?_ ?_
  rotate_left
  · intro w'
    go_simp
    with_reducible rfl
  rotate_left
  · simp only [Act.put, List.setIfInBounds_toArray, List.set_cons_zero, List.set_cons_succ, i64_w, i32_w]
    rfl
  try rw [hm]
  refine pure_ (i := 6) (N := some 11) (v := ?_) (a' := ?_) #[true, true, true, true, true, true, true, false, false] rfl rfl (by kernel_rfl) (fun _ _ _ h => h) (Or.inl ⟨by rfl, ?_⟩) ?_ ?_
  rotate_left
  · intro w'
    go_simp
    with_reducible rfl
  rotate_left
  · simp only [Act.put, List.setIfInBounds_toArray, List.set_cons_zero, List.set_cons_succ, i64_w, i32_w]
    rfl
  refine take_ (i := 7) (N := some 12) (v := ?_) (a' := ?_) #[true, true, true, true, true, true, true, true, false] rfl rfl (by kernel_rfl) (fun _ _ _ h => h) (Or.inl ⟨by rfl, ?_⟩) hS0 ?_ ?_
  rotate_left
  · rintro w' ⟨k0', k1', k2'⟩
    go_simp
    with_reducible rfl
  rotate_left
  · simp only [Act.put, List.setIfInBounds_toArray, List.set_cons_zero, List.set_cons_succ, i64_w, i32_w]
    rfl
  refine pure_ (i := 8) (N := some 4) (v := ?_) (a' := ?_) #[true, true, true, true, true, true, true, true, true] rfl rfl (by kernel_rfl) (fun _ _ _ h => h) (Or.inl ⟨by rfl, ?_⟩) ?_ ?_
  rotate_left
  · intro w'
    go_simp
    with_reducible rfl
  rotate_left
  · simp only [Act.put, List.setIfInBounds_toArray, List.set_cons_zero, List.set_cons_succ, i64_w, i32_w]
    rfl
  refine done_ (by kernel_rfl) ?_
  go_wp2
  go_ret
  exact ⟨rfl, below_drew (Below.refl _ _)⟩
theorem two_new9 (w : World) (v1 v2 : Value) (t1 t2 : TypeId) : ((w.alloc (.cells #[v1] t1)).alloc (.cells #[v2] t2)).cell? ⟨w.heap.size, 0, none⟩ = some v1 ∧ ((w.alloc (.cells #[v1] t1)).alloc (.cells #[v2] t2)).cell? ⟨w.heap.size + 1, 0, none⟩ = some v2 ∧ Below w.heap.size w ((w.alloc (.cells #[v1] t1)).alloc (.cells #[v2] t2)) ∧ ((w.alloc (.cells #[v1] t1)).alloc (.cells #[v2] t2)).heap.size = w.heap.size + 1 + 1 := by
  have s1 : (w.alloc (.cells #[v1] t1)).heap.size = w.heap.size + 1 := World.size_alloc _ _
  have c1 := cells_new w #[v1] t1 0
  have c2 := cells_new (w.alloc (.cells #[v1] t1)) #[v2] t2 0
  rw [s1] at c2
  exact ⟨cell_to c1 (below_alloc (Below.refl _ _) _), c2, below_alloc (below_alloc (Below.refl _ _) _) _, by rw [World.size_alloc, s1]⟩
set_option maxHeartbeats 8000000 in
set_option maxRecDepth 100000 in
theorem wturn_good {n : Nat} {l : List Nat} {A : Option Addr} {c : Nat} (h2 : 2 ≤ n) (h16 : n ≤ 16) (hl : l.length = n) (hlq : ∀ x ∈ l, x < qF n) (w : World) (hr : Kd.C (Kd.int .i64) w A (natsI l).length (natsI l)) (hc : l.length ≤ c) :
    Calls Tryd.prog 39 #[.int .i64 (n : Int), .slice A l.length c] w fun e w' => ∃ v, e = .returned (.tuple #[v, .int .i64 0]) ∧ Kd.R (Kd.int .i64) 3 w' w.heap.size (fun _ => True) v (wheelL n (qF n) (trnV n l)) ∧ Below w.heap.size w w' := by
  have HF := Aside0.mk (field_at h2 h16)
  obtain ⟨m0, m1, mb, ms⟩ := two_new9 w (.int .i64 (n : Int)) (.slice A l.length c) 3 22
  have HRD := Aside0.mk (read_row h2 h16 hl hlq w ((w.alloc (.cells #[.int .i64 (n : Int)] 3)).alloc (.cells #[.slice A l.length c] 22)) hr hc mb)
  rw [ms] at HRD
  have HWH := Aside0.mk (fun (V : World) (hV : TuAt n l w.heap.size (w.heap.size + 1) A c V) => wheel_calls n (qF n) (wF n) 74 (by omega) (by have := HF.out; omega) (by have := HF.out; omega) #[.pointer (some ⟨w.heap.size + 1, 0, none⟩), .pointer (some ⟨w.heap.size, 0, none⟩)] (trnV n l) (fun x _ => by
    have := getD_lt (l := l) (q := qF n) (by have := HF.out; omega) hlq ((n - x) % n)
    have := HF.out
    unfold trnV
    omega) V (fun args W => enters_ Tryd.func74 (by kernel_rfl) rfl args W) (fun W x hx hb => wturn1_calls n l _ _ A c x h16 hl hx W (hV.to hb)))
  have HM := Aside0.mk (show TuAt n l w.heap.size (w.heap.size + 1) A c ((w.alloc (.cells #[.int .i64 (n : Int)] 3)).alloc (.cells #[.slice A l.length c] 22)) ∧ Below w.heap.size w ((w.alloc (.cells #[.int .i64 (n : Int)] 3)).alloc (.cells #[.slice A l.length c] 22)) from ⟨⟨m0, m1, Kd.C_below hr mb⟩, mb⟩)
  obtain ⟨Q, hQ⟩ : ∃ x, qF n = x := ⟨_, rfl⟩
  obtain ⟨Wf, hWf⟩ : ∃ x, wF n = x := ⟨_, rfl⟩
  simp only [hQ, hWf] at HRD HWH ⊢
  have hmf : ∀ (fn : Fn) (first cap : Array Value) (w : World), (Instr.makeFunc fn first cap).run Tryd.prog w = .ok (.func fn first cap) w := fun _ _ _ _ => rfl
  clear h2 hlq hr hc m0 m1 mb ms hQ hWf hl
  go_enter Tryd.func39, Tryd.ntmps39
  go_wp2_with fail
  refine HRD.out.mono ?_
  rintro e w1 ⟨rfl, hb1⟩
  have H1 := Aside0.mk (show TuAt n l w.heap.size (w.heap.size + 1) A c (w1.alloc (.cells #[.int .i64 (n : Int), .int .i64 (Q : Int), .int .i64 (Wf : Int)] 80)) ∧ Below w.heap.size w (w1.alloc (.cells #[.int .i64 (n : Int), .int .i64 (Q : Int), .int .i64 (Wf : Int)] 80)) from by
    have hs := (two_new9 w (.int .i64 (n : Int)) (.slice A l.length c) 3 22).2.2.2
    rw [← hs] at hb1
    have ha : Below w1.heap.size w1 (w1.alloc (.cells #[.int .i64 (n : Int), .int .i64 (Q : Int), .int .i64 (Wf : Int)] 80)) := below_alloc (Below.refl _ _) _
    have hb2 := below_step hb1 ha
    exact ⟨HM.out.1.to hb2, below_step HM.out.2 hb2⟩)
  clear hb1
  go_wp2_with fail
  refine (HWH.out _ H1.out.1).mono ?_
  rintro e w9 ⟨v, rfl, hR9, hb9⟩
  have H9 := Aside0.mk (And.intro (Kd.R_lower hR9 (below_size H1.out.2)) (below_step H1.out.2 hb9))
  clear hR9 hb9
  go_wp2_with fail
  exact bodyPost_ret (results_tmp2 rfl _ _ _) rfl ⟨v, rfl, H9.out.1, H9.out.2⟩
def wheels_Turn.f (a0 : Int) (l1 : List Int) : Option (List Int × Int) := if 2 ≤ a0 ∧ a0 ≤ 16 ∧ l1.length = a0.toNat ∧ ∀ x ∈ l1, 0 ≤ x ∧ x < (qF a0.toNat : Int) then some (wheelL a0.toNat (qF a0.toNat) (trnV a0.toNat (l1.map Int.toNat)), 0) else none
theorem wheels_Turn.calls (a0 : Int) (A1 : Option Addr) (c1 : Nat) (l1 : List Int) (r1 : List Int) (r2 : Int) (w : World) (hr1 : Kd.C (Kd.int .i64) w A1 l1.length l1) (hc1 : l1.length ≤ c1) (h : wheels_Turn.f a0 l1 = some (r1, r2)) :
    Calls Tryd.prog 39 #[.int .i64 a0, .slice A1 l1.length c1] w fun e w' => ∃ v0_ : Value, e = .returned (.tuple #[v0_, .int .i64 r2]) ∧ Kd.R (Kd.int .i64) 3 w' w.heap.size (fun _ => True) v0_ r1 ∧ Below w.heap.size w w' := by
  unfold wheels_Turn.f at h
  by_cases hd : 2 ≤ a0 ∧ a0 ≤ 16 ∧ l1.length = a0.toNat ∧ ∀ x ∈ l1, 0 ≤ x ∧ x < (qF a0.toNat : Int)
  · rw [if_pos hd] at h
    injection h with h
    injection h with e1 e2
    subst e1
    subst e2
    obtain ⟨n, rfl⟩ : ∃ n : Nat, a0 = (n : Int) := ⟨a0.toNat, by omega⟩
    rw [Int.toNat_natCast] at hd ⊢
    have hn := natsI_toNat (fun x hx => (hd.2.2.2 x hx).1)
    have hl : (l1.map Int.toNat).length = l1.length := List.length_map _
    have := wturn_good (n := n) (l := l1.map Int.toNat) (A := A1) (c := c1) (by omega) (by omega) (by rw [hl]; exact hd.2.2.1) (fun x hx => by
      obtain ⟨y, hy, rfl⟩ := List.mem_map.1 hx
      have := hd.2.2.2 y hy
      omega) w (by rw [hn]; exact hr1) (by rw [hl]; exact hc1)
    rw [hl] at this
    exact this
  · rw [if_neg hd] at h
    cases h

end Go.Proofs.YtfpnojcbhbkfaaaDoor.P
