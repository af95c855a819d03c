/- A part of a proof that a law's Go function returns true for every input, laid by this session's program mp.py (which drives the kit's print). Conditions: as each theorem states them. -/
import Derived.StillTailTactics
import Derived.Laws.EntriesVeiled
import Derived.Shelf.Abstract
import Derived.RegionTactic
import Derived.Deep.QuietTactic
import Derived.Test.YtfpnojcbhbkfaaaDoorCTopImages1
namespace Go.Proofs.YtfpnojcbhbkfaaaDoor.P
open Go.RowKit Go.Proofs.YtfpnojcbhbkfaaaDoorW.PrintWords Go.Proofs.YtfpnojcbhbkfaaaDoorW.PrintLast Go.Proofs.YtfpnojcbhbkfaaaDoorW.PrintMore
attribute [local go_sem] max2_int min2_int max_two min_two max_three min_three max_four min_four   -- for this text's walks alone
set_option linter.unusedVariables false
set_option linter.unusedSimpArgs false

/-! wheels.field.turned, and its function -/
def natsI (l : List Nat) : List Int := l.map Int.ofNat
theorem natsI_len (l : List Nat) : (natsI l).length = l.length := by unfold natsI; simp
def accW (q n u k : Nat) : List Nat → Nat → Nat → Nat
  | [], _, acc => acc
  | c :: l, x, acc => accW q n u k l (x + 1) (acc + c * pwN q u (k * x % n) % q)
def turnedV (q n u : Nat) (l : List Nat) (k : Nat) : Nat := accW q n u k l 0 0
theorem accW_le {q n u k : Nat} (hq : 1 ≤ q) : ∀ (l : List Nat) (x acc : Nat), accW q n u k l x acc ≤ acc + l.length * q
  | [], _, acc => by simp [accW]
  | c :: l, x, acc => by
    have h := accW_le (n := n) (u := u) (k := k) hq l (x + 1) (acc + c * pwN q u (k * x % n) % q)
    have := Nat.mod_lt (c * pwN q u (k * x % n)) hq
    unfold accW
    rw [List.length_cons, Nat.succ_mul]
    omega
/-- what a turned wheel's function finds in memory -/
structure TrnAt (n q f u : Nat) (l : List Nat) (BL BF BW : Nat) (A : Option Addr) (c : Nat) (w : World) : Prop where
  l0 : w.cell? ⟨BL, 0, none⟩ = some (.slice A l.length c)
  f0 : w.cell? ⟨BF, 0, none⟩ = some (.int .i64 (n : Int))
  f1 : w.cell? ⟨BF, 1, none⟩ = some (.int .i64 (q : Int))
  f2 : w.cell? ⟨BF, 2, none⟩ = some (.int .i64 (f : Int))
  u0 : w.cell? ⟨BW, 0, none⟩ = some (.int .i64 (u : Int))
  r : Kd.C (Kd.int .i64) w A (natsI l).length (natsI l)
theorem cell_to {w W : World} {a : Addr} {v : Value} (h : w.cell? a = some v) (hb : Below w.heap.size w W) : W.cell? a = some v := (hb.cell (p := a) (World.block_lt_of_cell? _ _ h)).trans h
theorem TrnAt.to {n q f u : Nat} {l : List Nat} {BL BF BW : Nat} {A : Option Addr} {c : Nat} {w W : World} (h : TrnAt n q f u l BL BF BW A c w) (hb : Below w.heap.size w W) : TrnAt n q f u l BL BF BW A c W :=
  ⟨cell_to h.l0 hb, cell_to h.f0 hb, cell_to h.f1 hb, cell_to h.f2 hb, cell_to h.u0 hb, Kd.C_below h.r hb⟩
set_option maxHeartbeats 8000000 in
set_option maxRecDepth 100000 in
theorem turned1_calls (n q f u : Nat) (l : List Nat) (BL BF BW : Nat) (A : Option Addr) (c : Nat) (k : Nat) (hn1 : 1 ≤ n) (hn : n ≤ 16) (hq : 2 ≤ q) (hq2 : q ≤ 1000) (hu : u < q) (hl : l.length ≤ 16) (hlq : ∀ x ∈ l, x < q) (hk : k < n) (w : World) (h : TrnAt n q f u l BL BF BW A c w) :
    Calls Tryd.prog 122 #[.int .i64 (k : Int), .pointer (some ⟨BL, 0, none⟩), .pointer (some ⟨BF, 0, none⟩), .pointer (some ⟨BW, 0, none⟩)] w fun e w' => e = .returned (.int .i64 (turnedV q n u l k : Int)) ∧ Below w.heap.size w w' := by
  have HT := Aside0.mk h
  have HN := Aside0.mk (show 1 ≤ n ∧ n ≤ 16 ∧ 2 ≤ q ∧ q ≤ 1000 ∧ k < n ∧ l.length ≤ 16 from ⟨hn1, hn, hq, hq2, hk, hl⟩)
  have HLQ := Aside0.mk hlq
  obtain ⟨T, hT⟩ : ∃ T, T = turnedV q n u l k := ⟨_, rfl⟩
  have HPW := Aside0.mk (fun (m : Nat) (hm : m ≤ 1000) (V : World) => by
    obtain ⟨kp, hkp⟩ := Ev.rounds (power_ev hq hq2 hu hm (n : Int) (f : Int))
    exact wheels_field_power.calls kp (n : Int) (q : Int) (f : Int) (u : Int) (m : Int) _ V hkp)
  have c0 := h.l0
  rw [← hT]
  have HTT := Aside0.mk hT
  clear h hlq hT hu
  go_enter Tryd.func122, Tryd.ntmps122
  go_wp2_with fail
  clear c0
  go_loopg [6, 11] l.length (fun gg s6 s11 wr => ∃ (x acc : Nat), s11 = .int .i64 (x : Int) ∧ s6 = .int .i64 (acc : Int) ∧ x + gg = l.length ∧ Aside0 (accW q n u k (l.drop x) x acc = T ∧ acc ≤ x * 1000) ∧ Aside0 (Below w.heap.size w wr))
  case atStart => exact ⟨0, 0, rfl, rfl, by omega, ⟨by rw [List.drop_zero, HTT.out]; rfl, by omega⟩, ⟨Below.refl _ _⟩⟩
  case round =>
    obtain ⟨x, acc, rfl, rfl, hxg, HA, HB⟩ := hrel
    by_cases hx : x < l.length
    · have hxz : (x : Int) < (l.length : Int) := by omega
      have hx0 : (0 : Int) ≤ (x : Int) := by omega
      have HTR := Aside0.mk (HT.out.to HB.out)
      obtain ⟨cx, hcx⟩ : ∃ y, y = l[x] := ⟨_, rfl⟩
      obtain ⟨ad, ead, hcell⟩ := Kd.at_int HTR.out.r (x : Int) hx0 (by rw [natsI_len]; exact hxz)
      have hrd : rd (natsI l) (x : Int) = (cx : Int) := by
        rw [rd_get (by rw [natsI_len]; exact hx), hcx]
        simp [natsI]
      rw [hrd, Int.toNat_natCast] at hcell
      cases ead
      have HCX := Aside0.mk (show cx < q ∧ l.drop x = cx :: l.drop (x + 1) from ⟨by rw [hcx]; exact HLQ.out _ (List.getElem_mem hx), by rw [hcx]; exact List.drop_eq_getElem_cons hx⟩)
      have f0 := HTR.out.f0
      have f1 := HTR.out.f1
      have f2 := HTR.out.f2
      have u0 := HTR.out.u0
      clear hcx hrd
      go_wp2_with fail
      have hS0 : (wr.drew).cell? ⟨BF, 0, none⟩ = some (.int .i64 (n : Int)) ∧ (wr.drew).cell? ⟨BF, 1, none⟩ = some (.int .i64 (q : Int)) ∧ (wr.drew).cell? ⟨BF, 2, none⟩ = some (.int .i64 (f : Int)) ∧ (wr.drew).cell? ⟨BW, 0, none⟩ = some (.int .i64 (u : Int)) := ⟨f0, f1, f2, u0⟩
      have hn0z : ¬ (n : Int) = 0 := by have := HN.out.1; omega
      have hn0n : ¬ n = 0 := by have := HN.out.1; omega
      have hq0z : ¬ (q : Int) = 0 := by have := HN.out.2.2.1; omega
      have hq0n : ¬ q = 0 := by have := HN.out.2.2.1; omega
      refine start_ (n := 17) (S := (fun w' => w'.cell? ⟨BF, 0, none⟩ = some (.int .i64 (n : Int)) ∧ w'.cell? ⟨BF, 1, none⟩ = some (.int .i64 (q : Int)) ∧ w'.cell? ⟨BF, 2, none⟩ = some (.int .i64 (f : Int)) ∧ w'.cell? ⟨BW, 0, none⟩ = some (.int .i64 (u : Int)))) (ds := []) #[false, false, false, false, false, false, false, false, false, false, false, false, false, false, false, false, false] (by kernel_rfl) rfl rfl hS0 (fun _ => ?_)
      refine pure_ (i := 0) (N := some 16) (v := ?_) (a' := ?_) #[true, false, false, false, false, false, false, false, false, false, false, false, false, false, false, false, false] rfl rfl (by kernel_rfl) (fun _ _ _ h => h) (Or.inl ⟨by rfl, ?_⟩) ?_ ?_
      rotate_left
      · intro w'
        go_simp
        with_reducible rfl
      rotate_left
      · simp only [Act.put, List.setIfInBounds_toArray, List.set_cons_zero, List.set_cons_succ, i64_w, i32_w]
        rfl
      refine pure_ (i := 1) (N := some 17) (v := ?_) (a' := ?_) #[true, true, false, false, false, false, false, false, false, false, false, false, false, false, false, false, false] rfl rfl (by kernel_rfl) (fun _ _ _ h => h) (Or.inl ⟨by rfl, ?_⟩) ?_ ?_
      rotate_left
      · intro w'
        go_simp
        with_reducible rfl
      rotate_left
      · simp only [Act.put, List.setIfInBounds_toArray, List.set_cons_zero, List.set_cons_succ, i64_w, i32_w]
        rfl
      refine pure_ (i := 4) (N := some 20) (v := ?_) (a' := ?_) #[true, true, false, false, true, false, false, false, false, false, false, false, false, false, false, false, false] rfl rfl (by kernel_rfl) (fun _ _ _ h => h) (Or.inl ⟨by rfl, ?_⟩) ?_ ?_
      rotate_left
      · intro w'
        go_simp
        with_reducible rfl
      rotate_left
      · simp only [Act.put, List.setIfInBounds_toArray, List.set_cons_zero, List.set_cons_succ, i64_w, i32_w]
        rfl
      refine pure_ (i := 5) (N := some 21) (v := ?_) (a' := ?_) #[true, true, false, false, true, true, false, false, false, false, false, false, false, false, false, false, false] rfl rfl (by kernel_rfl) (fun _ _ _ h => h) (Or.inl ⟨by rfl, ?_⟩) ?_ ?_
      rotate_left
      · intro w'
        go_simp
        with_reducible rfl
      rotate_left
      · simp only [Act.put, List.setIfInBounds_toArray, List.set_cons_zero, List.set_cons_succ, i64_w, i32_w]
        rfl
      refine pure_ (i := 6) (N := some 22) (v := ?_) (a' := ?_) #[true, true, false, false, true, true, true, false, false, false, false, false, false, false, false, false, false] rfl rfl (by kernel_rfl) (fun _ _ _ h => h) (Or.inl ⟨by rfl, ?_⟩) ?_ ?_
      rotate_left
      · intro w'
        go_simp
        with_reducible rfl
      rotate_left
      · simp only [Act.put, List.setIfInBounds_toArray, List.set_cons_zero, List.set_cons_succ, i64_w, i32_w]
        rfl
      refine pure_ (i := 7) (N := some 23) (v := ?_) (a' := ?_) #[true, true, false, false, true, true, true, true, false, false, false, false, false, false, false, false, false] rfl rfl (by kernel_rfl) (fun _ _ _ h => h) (Or.inl ⟨by rfl, ?_⟩) ?_ ?_
      rotate_left
      · intro w'
        go_simp
        with_reducible rfl
      rotate_left
      · simp only [Act.put, List.setIfInBounds_toArray, List.set_cons_zero, List.set_cons_succ, i64_w, i32_w]
        rfl
      refine pure_ (i := 12) (N := some 28) (v := ?_) (a' := ?_) #[true, true, false, false, true, true, true, true, false, false, false, false, true, false, false, false, false] rfl rfl (by kernel_rfl) (fun _ _ _ h => h) (Or.inl ⟨by rfl, ?_⟩) ?_ ?_
      rotate_left
      · intro w'
        go_simp
        with_reducible rfl
      rotate_left
      · simp only [Act.put, List.setIfInBounds_toArray, List.set_cons_zero, List.set_cons_succ, i64_w, i32_w]
        rfl
      refine take_ (i := 2) (N := some 18) (v := ?_) (a' := ?_) #[true, true, true, false, true, true, true, true, false, false, false, false, true, false, false, false, false] rfl rfl (by kernel_rfl) (fun _ _ _ h => h) (Or.inl ⟨by rfl, ?_⟩) hS0 ?_ ?_
      rotate_left
      · rintro w' ⟨k0', k1', k2', k3'⟩
        go_simp
        with_reducible rfl
      rotate_left
      · simp only [Act.put, List.setIfInBounds_toArray, List.set_cons_zero, List.set_cons_succ, i64_w, i32_w]
        rfl
      refine take_ (i := 3) (N := some 19) (v := ?_) (a' := ?_) #[true, true, true, true, true, true, true, true, false, false, false, false, true, false, false, false, false] rfl rfl (by kernel_rfl) (fun _ _ _ h => h) (Or.inl ⟨by rfl, ?_⟩) hS0 ?_ ?_
      rotate_left
      · rintro w' ⟨k0', k1', k2', k3'⟩
        go_simp
        with_reducible rfl
      rotate_left
      · simp only [Act.put, List.setIfInBounds_toArray, List.set_cons_zero, List.set_cons_succ, i64_w, i32_w]
        rfl
      refine take_ (i := 8) (N := some 24) (v := ?_) (a' := ?_) #[true, true, true, true, true, true, true, true, true, false, false, false, true, false, false, false, false] rfl rfl (by kernel_rfl) (fun _ _ _ h => h) (Or.inl ⟨by rfl, ?_⟩) hS0 ?_ ?_
      rotate_left
      · rintro w' ⟨k0', k1', k2', k3'⟩
        go_simp
        with_reducible rfl
      rotate_left
      · simp only [Act.put, List.setIfInBounds_toArray, List.set_cons_zero, List.set_cons_succ, i64_w, i32_w]
        rfl
      refine take_ (i := 13) (N := some 29) (v := ?_) (a' := ?_) #[true, true, true, true, true, true, true, true, true, false, false, false, true, true, false, false, false] rfl rfl (by kernel_rfl) (fun _ _ _ h => h) (Or.inl ⟨by rfl, ?_⟩) hS0 ?_ ?_
      rotate_left
      · rintro w' ⟨k0', k1', k2', k3'⟩
        go_simp
        with_reducible rfl
      rotate_left
      · simp only [Act.put, List.setIfInBounds_toArray, List.set_cons_zero, List.set_cons_succ, i64_w, i32_w]
        rfl
      refine pure_ (i := 9) (N := some 25) (v := ?_) (a' := ?_) #[true, true, true, true, true, true, true, true, true, true, false, false, true, true, false, false, false] rfl rfl (by kernel_rfl) (fun _ _ _ h => h) (Or.inl ⟨by rfl, ?_⟩) ?_ ?_
      rotate_left
      · intro w'
        go_simp
        with_reducible rfl
      rotate_left
      · simp only [Act.put, List.setIfInBounds_toArray, List.set_cons_zero, List.set_cons_succ, i64_w, i32_w]
        rfl
      obtain ⟨e0, he0⟩ : ∃ e0, e0 = k * x % n := ⟨_, rfl⟩
      have hm : Int.tmod (wrap64 ((k : Int) * (x : Int))) (n : Int) = (e0 : Int) := by
        have : k * x ≤ 16 * 16 := Nat.mul_le_mul (by have := HN.out; omega) (by have := HN.out; omega)
        rw [← Int.natCast_mul, wrap_id (by omega) (by omega), Int.tmod_eq_emod_of_nonneg (by omega), ← Int.natCast_emod, he0]
      have hel : e0 ≤ 1000 := by rw [he0]; have := Nat.mod_lt (k * x) (show 0 < n by have := HN.out; omega); have := HN.out; omega
      rw [hm]
      obtain ⟨pw, hpw⟩ : ∃ y, y = pwN q u e0 := ⟨_, rfl⟩
      have HE := Aside0.mk he0
      have HPN := Aside0.mk hpw
      have hpl : pw < q := by rw [hpw]; exact pwN_lt (by have := HN.out; omega) e0
      have hcall := HPW.out e0 hel wr.drew
      rw [← hpw] at hcall
      have HC := Aside0.mk hcall
      clear he0 hm hpw hcall
      refine one_ (i := 10) (N := some 26) #[true, true, true, true, true, true, true, true, true, true, true, false, true, true, false, false, false] rfl rfl (by kernel_rfl) (by decide) (fun K hK => ?_)
      refine goes_ Tryd.func123 (by kernel_rfl) rfl #[.agg #[.int .i64 (n : Int), .int .i64 (q : Int), .int .i64 (f : Int)], .int .i64 (u : Int), .int .i64 (e0 : Int)] (by rfl) rfl rfl (by simp only [List.map_toArray, List.map_cons, List.map_nil]; rfl) ?_
      refine HC.out.mono ?_
      rintro e w7 ⟨rfl, hb7⟩
      refine ⟨_, rfl, ?_⟩
      have HX := Aside0.mk (show Below wr.heap.size wr w7 ∧ Below w.heap.size w w7 from ⟨below_step (below_drew (Below.refl _ _)) hb7, below_step HB.out.drew hb7⟩)
      clear hb7
      refine hK.out _ _ ⟨cell_to f0 HX.out.1, cell_to f1 HX.out.1, cell_to f2 HX.out.1, cell_to u0 HX.out.1⟩ (fun _ => ?_)
      clear hK K
      refine norm_ (a' := ?_) ?_ ?_
      rotate_left
      · show Act.put _ (some 26) _ = _
        simp only [Act.put, List.setIfInBounds_toArray, List.set_cons_zero, List.set_cons_succ, i64_w, i32_w]
        rfl
      refine pure_ (i := 11) (N := some 27) (v := ?_) (a' := ?_) #[true, true, true, true, true, true, true, true, true, true, true, true, true, true, false, false, false] rfl rfl (by kernel_rfl) (fun _ _ _ h => h) (Or.inl ⟨by rfl, ?_⟩) ?_ ?_
      rotate_left
      · intro w'
        go_simp
        with_reducible rfl
      rotate_left
      · simp only [Act.put, List.setIfInBounds_toArray, List.set_cons_zero, List.set_cons_succ, i64_w, i32_w]
        rfl
      refine pure_ (i := 14) (N := some 30) (v := ?_) (a' := ?_) #[true, true, true, true, true, true, true, true, true, true, true, true, true, true, true, false, false] rfl rfl (by kernel_rfl) (fun _ _ _ h => h) (Or.inl ⟨by rfl, ?_⟩) ?_ ?_
      rotate_left
      · intro w'
        go_simp
        with_reducible rfl
      rotate_left
      · simp only [Act.put, List.setIfInBounds_toArray, List.set_cons_zero, List.set_cons_succ, i64_w, i32_w]
        rfl
      obtain ⟨vv, hvv⟩ : ∃ y, y = cx * pw % q := ⟨_, rfl⟩
      have hvl : vv < q := by rw [hvv]; exact Nat.mod_lt _ (by have := HN.out; omega)
      have hv : Int.tmod (wrap64 ((cx : Int) * (pw : Int))) (q : Int) = (vv : Int) := by
        have : cx * pw ≤ 1000 * 1000 := Nat.mul_le_mul (by have := HCX.out.1; have := HN.out; omega) (by have := HN.out; omega)
        rw [← Int.natCast_mul, wrap_id (by omega) (by omega), Int.tmod_eq_emod_of_nonneg (by omega), ← Int.natCast_emod, hvv]
      rw [hv]
      have HVL := Aside0.mk (show cx * pw % q < q by rw [← hvv]; exact hvl)
      have HVV := Aside0.mk hvv
      clear hv hvv hvl
      refine pure_ (i := 15) (N := some 31) (v := ?_) (a' := ?_) #[true, true, true, true, true, true, true, true, true, true, true, true, true, true, true, true, false] rfl rfl (by kernel_rfl) (fun _ _ _ h => h) (Or.inl ⟨by rfl, ?_⟩) ?_ ?_
      rotate_left
      · intro w'
        go_simp
        with_reducible rfl
      rotate_left
      · simp only [Act.put, List.setIfInBounds_toArray, List.set_cons_zero, List.set_cons_succ, i64_w, i32_w]
        rfl
      have hs : wrap64 ((acc : Int) + (vv : Int)) = ((acc + cx * pw % q : Nat) : Int) := by
        have := HA.out.2
        have := HN.out
        have := HVL.out
        have e := HVV.out
        rw [wrap_id (by omega) (by omega)]; omega
      rw [hs]
      clear hs
      refine pure_ (i := 16) (N := some 6) (v := ?_) (a' := ?_) #[true, true, true, true, true, true, true, true, true, true, true, true, true, true, true, true, true] rfl rfl (by kernel_rfl) (fun _ _ _ h => h) (Or.inl ⟨by rfl, ?_⟩) ?_ ?_
      rotate_left
      · intro w'
        go_simp
        with_reducible rfl
      rotate_left
      · simp only [Act.put, List.setIfInBounds_toArray, List.set_cons_zero, List.set_cons_succ, i64_w, i32_w]
        rfl
      refine done_ (by kernel_rfl) ?_
      go_wp2_with fail
      go_roundg (l.length - (x + 1))
      case measure => omega
      case rel =>
        refine ⟨x + 1, acc + cx * pw % q, by go_num, rfl, by omega, ⟨?_, ?_⟩, ⟨HX.out.2⟩⟩
        · have h := HA.out.1
          rw [HCX.out.2] at h
          unfold accW at h
          rw [← HE.out, ← HPN.out] at h
          exact h
        · have := HA.out.2
          have := HVL.out
          have := HN.out.2.2.2.1
          omega
    · have hxz : ¬ (x : Int) < (l.length : Int) := by omega
      have h := HA.out.1
      rw [List.drop_eq_nil_of_le (by omega)] at h
      have HE := Aside0.mk (show acc = T from h)
      clear h
      go_wp2_with fail
      go_ret
      exact ⟨by rw [HE.out]; rfl, HB.out⟩
theorem cells_new (W : World) (c : Array Value) (t : TypeId) (i : Nat) : (W.alloc (.cells c t)).cell? ⟨W.heap.size, i, none⟩ = c[i]? := by
  have h : (W.alloc (.cells c t)).heap[W.heap.size]? = some (.cells c t) := by unfold World.alloc; exact Array.getElem?_push_size
  unfold World.cell?
  simp only [h]
  rfl
theorem trn_new {n q f u : Nat} {l : List Nat} {A : Option Addr} {c : Nat} {w : World} (hr : Kd.C (Kd.int .i64) w A (natsI l).length (natsI l)) :
    TrnAt n q f u l (w.heap.size + 1) w.heap.size (w.heap.size + 1 + 1) A c (((w.alloc (.cells #[.int .i64 (n : Int), .int .i64 (q : Int), .int .i64 (f : Int)] 80)).alloc (.cells #[.slice A l.length c] 22)).alloc (.cells #[.int .i64 (u : Int)] 3)) := by
  have s1 : (w.alloc (.cells #[.int .i64 (n : Int), .int .i64 (q : Int), .int .i64 (f : Int)] 80)).heap.size = w.heap.size + 1 := World.size_alloc _ _
  have s2 : ((w.alloc (.cells #[.int .i64 (n : Int), .int .i64 (q : Int), .int .i64 (f : Int)] 80)).alloc (.cells #[.slice A l.length c] 22)).heap.size = w.heap.size + 2 := by rw [World.size_alloc, s1]
  have c1 := fun i => cells_new w #[.int .i64 (n : Int), .int .i64 (q : Int), .int .i64 (f : Int)] 80 i
  have c2 := cells_new (w.alloc (.cells #[.int .i64 (n : Int), .int .i64 (q : Int), .int .i64 (f : Int)] 80)) #[.slice A l.length c] 22 0
  have c3 := cells_new ((w.alloc (.cells #[.int .i64 (n : Int), .int .i64 (q : Int), .int .i64 (f : Int)] 80)).alloc (.cells #[.slice A l.length c] 22)) #[.int .i64 (u : Int)] 3 0
  rw [s1] at c2
  rw [s2] at c3
  have hb : ∀ (W : World) (o : Obj), Below W.heap.size W (W.alloc o) := fun W o => below_alloc (Below.refl _ _) o
  exact ⟨cell_to c2 (hb _ _), cell_to (cell_to (c1 0) (hb _ _)) (hb _ _), cell_to (cell_to (c1 1) (hb _ _)) (hb _ _), cell_to (cell_to (c1 2) (hb _ _)) (hb _ _), c3, Kd.C_alloc (Kd.C_alloc (Kd.C_alloc hr _) _) _⟩
set_option maxHeartbeats 8000000 in
set_option maxRecDepth 100000 in
theorem turned_calls (n q f u : Nat) (l : List Nat) (A : Option Addr) (c : Nat) (hn1 : 1 ≤ n) (hn : n ≤ 16) (hq : 2 ≤ q) (hq2 : q ≤ 1000) (hu : u < q) (hl : l.length ≤ 16) (hlq : ∀ x ∈ l, x < q) (w : World) (hr : Kd.C (Kd.int .i64) w A (natsI l).length (natsI l)) :
    Calls Tryd.prog 95 #[.agg #[.int .i64 (n : Int), .int .i64 (q : Int), .int .i64 (f : Int)], .slice A l.length c, .int .i64 (u : Int)] w fun e w' => ∃ v, e = .returned v ∧ Kd.R (Kd.int .i64) 3 w' w.heap.size (fun _ => True) v (wheelL n q (turnedV q n u l)) ∧ Below w.heap.size w w' := by
  have HT := Aside0.mk (trn_new (n := n) (q := q) (f := f) (u := u) (l := l) (A := A) (c := c) (w := w) hr)
  have HW := Aside0.mk (fun (V : World) (hV : TrnAt n q f u l (w.heap.size + 1) w.heap.size (w.heap.size + 1 + 1) A c V) => wheel_calls n q f 122 (by omega) (by omega) (by omega) #[.pointer (some ⟨w.heap.size + 1, 0, none⟩), .pointer (some ⟨w.heap.size, 0, none⟩), .pointer (some ⟨w.heap.size + 1 + 1, 0, none⟩)] (turnedV q n u l) (fun k hk => by
    have := accW_le (n := n) (u := u) (k := k) (q := q) (by omega) l 0 0
    have h2 : l.length * q ≤ 16 * 1000 := Nat.mul_le_mul hl hq2
    unfold turnedV
    omega) V (fun args W => enters_ Tryd.func122 (by kernel_rfl) rfl args W) (fun W k hk hb => turned1_calls n q f u l _ _ _ A c k hn1 hn hq hq2 hu hl hlq hk W (hV.to hb)))
  have hmf : ∀ (fn : Fn) (first cap : Array Value) (w : World), (Instr.makeFunc fn first cap).run Tryd.prog w = .ok (.func fn first cap) w := fun _ _ _ _ => rfl
  clear hr hlq
  go_enter Tryd.func95, Tryd.ntmps95
  have HB := Aside0.mk (show Below w.heap.size w (((w.alloc (.cells #[.int .i64 (n : Int), .int .i64 (q : Int), .int .i64 (f : Int)] 80)).alloc (.cells #[.slice A l.length c] 22)).alloc (.cells #[.int .i64 (u : Int)] 3)) from below_alloc (below_alloc (below_alloc (Below.refl _ _) _) _) _)
  go_wp2_with fail
  refine (HW.out _ HT.out).mono ?_
  rintro e w7 ⟨v, rfl, hr7, hb7⟩
  have HX := Aside0.mk (And.intro (Kd.R_lower hr7 (below_size HB.out)) (below_step HB.out hb7))
  clear hr7 hb7
  go_wp2
  go_ret
  exact ⟨v, rfl, HX.out.1, HX.out.2⟩

end Go.Proofs.YtfpnojcbhbkfaaaDoor.P
namespace Go.Proofs.YtfpnojcbhbkfaaaDoor.P
open Go.RowKit Go.Proofs.YtfpnojcbhbkfaaaDoorW.PrintWords Go.Proofs.YtfpnojcbhbkfaaaDoorW.PrintLast Go.Proofs.YtfpnojcbhbkfaaaDoorW.PrintMore
attribute [local go_sem] max2_int min2_int max_two min_two max_three min_three max_four min_four   -- for this text's walks alone
set_option linter.unusedVariables false
set_option linter.unusedSimpArgs false

/-! ### wheels_isPrime: function 106 -/
def wheels_isPrime.l0 : Nat → Int → Int → Option (Bool)
  | 0, _, _ => none
  | k + 1, x0, x3 => if (wrap64 (x3 * x3)) ≤ x0 then (if x3 = 0 then (none) else (if (Int.tmod x0 x3) = 0 then (some false) else (wheels_isPrime.l0 k x0 (wrap64 (x3 + 1))))) else (some (decide (x0 > 1)))
def wheels_isPrime.f (k : Nat) (a0 : Int) : Option (Bool) := wheels_isPrime.l0 k a0 2
theorem wheels_isPrime.mono_l : ∀ k, (∀ y0 y1, LeO (wheels_isPrime.l0 k y0 y1) (wheels_isPrime.l0 (k + 1) y0 y1))
  | 0 => fun _ _ r h => by simp [wheels_isPrime.l0] at h
  | k + 1 => by
    have ih0 := wheels_isPrime.mono_l k
    · intro y0 y1
      unfold wheels_isPrime.l0
      repeat' first
      | (with_reducible exact ih0 _ _)
      | (with_reducible exact LeO.refl _)
      | (with_reducible exact LeO.none _)
      | (with_reducible refine LeO.ite ?_ ?_)
      | (with_reducible refine LeO.bind ?_ (fun _ => ?_))
      | exact ih0 _ _
      | exact LeO.none _
      | refine LeO.ite ?_ ?_
      | refine LeO.bind ?_ (fun _ => ?_)
theorem wheels_isPrime.mono : ∀ a0 k, LeO (wheels_isPrime.f k a0) (wheels_isPrime.f (k + 1) a0) := by
  intro a0 k
  have ih0 := wheels_isPrime.mono_l k
  unfold wheels_isPrime.f
  repeat' first
      | (with_reducible exact ih0 _ _)
      | (with_reducible exact LeO.refl _)
      | (with_reducible exact LeO.none _)
      | (with_reducible refine LeO.ite ?_ ?_)
      | (with_reducible refine LeO.bind ?_ (fun _ => ?_))
      | exact ih0 _ _
      | exact LeO.none _
      | refine LeO.ite ?_ ?_
      | refine LeO.bind ?_ (fun _ => ?_)
set_option maxHeartbeats 8000000 in
set_option maxRecDepth 100000 in
theorem wheels_isPrime.calls (k : Nat) (a0 : Int) (r : Bool) (w : World) (h : wheels_isPrime.f k a0 = some r) :
    Calls Tryd.prog 106 #[.int .i64 a0] w fun e w' => e = .returned (.bool r) ∧ Drawn0 w w' := by
  have H : (wheels_isPrime.l0 k a0 2) = some r := h
  clear h
  have H' := Aside0.mk H
  clear H
  go_enter Tryd.func106, Tryd.ntmps106
  go_wp2
  go_loopg [3] k (fun kq v3 w' => ∃ (x3_1 : Int), v3 = .int .i64 x3_1 ∧ Aside0 (wheels_isPrime.l0 kq a0 x3_1 = some r) ∧ Aside0 (kq ≤ k) ∧ Drawn0 w w')
  case atStart => exact ⟨(2), (by first | rfl | (simp; done) | (simp [*]; done)), H', ⟨Nat.le_refl _⟩, by repeat (first | exact Drawn0.refl _ | apply Drawn0.step)⟩
  case round =>
    clear H'
    try clear c1
    obtain ⟨x3_1, rfl, HA, HK1, ⟨m1, rfl⟩⟩ := hrel
    cases gk with
    | zero => exact absurd HA.out (by simp [wheels_isPrime.l0])
    | succ k1 =>
      have H := HA.out
      clear HA
      simp only [wheels_isPrime.l0] at H
      by_cases c2 : (wrap64 (x3_1 * x3_1)) ≤ a0
      · rw [if_pos c2] at H
        have c2b0 : decide ((wrap64 (x3_1 * x3_1)) ≤ a0) = true := decide_eq_true c2
        clear c2
        by_cases c3 : x3_1 = 0
        · rw [if_pos c3] at H
          exact absurd H (by simp)
        · rw [if_neg c3] at H
          have c3b0 : (x3_1 == 0) = false := beq_eq_false_iff_ne.mpr c3
          have c3b1 : (x3_1 != 0) = true := bne_iff_ne.mpr c3
          by_cases c4 : (Int.tmod a0 x3_1) = 0
          · rw [if_pos c4] at H
            have c4b0 : ((Int.tmod a0 x3_1) == 0) = true := beq_iff_eq.mpr c4
            have c4b1 : ((Int.tmod a0 x3_1) != 0) = false := bne_eq_false_iff_eq.mpr c4
            clear c4
            obtain rfl := Option.some.inj H
            go_wp2
            go_ret
            exact ⟨by first | rfl | (simp; done) | (simp [*]; done), by repeat (first | exact Drawn0.refl _ | apply Drawn0.step)⟩
          · rw [if_neg c4] at H
            have c4b0 : ((Int.tmod a0 x3_1) == 0) = false := beq_eq_false_iff_ne.mpr c4
            have c4b1 : ((Int.tmod a0 x3_1) != 0) = true := bne_iff_ne.mpr c4
            have H' := Aside0.mk H
            clear H
            go_wp2
            go_roundg k1
            case measure => have := HK1.out; omega
            case rel => exact ⟨(wrap64 (x3_1 + 1)), (by first | rfl | (simp; done) | (simp [*]; done)), H', ⟨by have := HK1.out; omega⟩, by repeat (first | exact Drawn0.refl _ | apply Drawn0.step)⟩
      · rw [if_neg c2] at H
        have c2b0 : decide ((wrap64 (x3_1 * x3_1)) ≤ a0) = false := decide_eq_false c2
        clear c2
        obtain rfl := Option.some.inj H
        go_wp2
        go_ret
        exact ⟨by first | rfl | (simp; done) | (simp [*]; done), by repeat (first | exact Drawn0.refl _ | apply Drawn0.step)⟩

end Go.Proofs.YtfpnojcbhbkfaaaDoor.P
namespace Go.Proofs.YtfpnojcbhbkfaaaDoor.P
open Go.RowKit Go.Proofs.YtfpnojcbhbkfaaaDoorW.PrintWords Go.Proofs.YtfpnojcbhbkfaaaDoorW.PrintLast Go.Proofs.YtfpnojcbhbkfaaaDoorW.PrintMore
attribute [local go_sem] max2_int min2_int max_two min_two max_three min_three max_four min_four   -- for this text's walks alone
set_option linter.unusedVariables false
set_option linter.unusedSimpArgs false

/-! ### wheels_field_order: function 107 -/
def wheels_field_order.l0 : Nat → Int → Int → Int → Int → Int → Int → Option (Int)
  | 0, _, _, _, _, _, _ => none
  | k + 1, x1, x5, x6, x1002000, x1002001, x1002002 => if x6 = 1 then (some x5) else (if x1002001 = 0 then (none) else (wheels_field_order.l0 k x1 (wrap64 (x5 + 1)) (Int.tmod (wrap64 (x6 * x1)) x1002001) x1002000 x1002001 x1002002))
def wheels_field_order.f (k : Nat) (a0_0 : Int) (a0_1 : Int) (a0_2 : Int) (a1 : Int) : Option (Int) := wheels_field_order.l0 k a1 1 a1 a0_0 a0_1 a0_2
theorem wheels_field_order.mono_l : ∀ k, (∀ y0 y1 y2 y3 y4 y5, LeO (wheels_field_order.l0 k y0 y1 y2 y3 y4 y5) (wheels_field_order.l0 (k + 1) y0 y1 y2 y3 y4 y5))
  | 0 => fun _ _ _ _ _ _ r h => by simp [wheels_field_order.l0] at h
  | k + 1 => by
    have ih0 := wheels_field_order.mono_l k
    · intro y0 y1 y2 y3 y4 y5
      unfold wheels_field_order.l0
      repeat' first
      | (with_reducible exact ih0 _ _ _ _ _ _)
      | (with_reducible exact LeO.refl _)
      | (with_reducible exact LeO.none _)
      | (with_reducible refine LeO.ite ?_ ?_)
      | (with_reducible refine LeO.bind ?_ (fun _ => ?_))
      | exact ih0 _ _ _ _ _ _
      | exact LeO.none _
      | refine LeO.ite ?_ ?_
      | refine LeO.bind ?_ (fun _ => ?_)
theorem wheels_field_order.mono : ∀ a0 a1 a2 a3 k, LeO (wheels_field_order.f k a0 a1 a2 a3) (wheels_field_order.f (k + 1) a0 a1 a2 a3) := by
  intro a0 a1 a2 a3 k
  have ih0 := wheels_field_order.mono_l k
  unfold wheels_field_order.f
  repeat' first
      | (with_reducible exact ih0 _ _ _ _ _ _)
      | (with_reducible exact LeO.refl _)
      | (with_reducible exact LeO.none _)
      | (with_reducible refine LeO.ite ?_ ?_)
      | (with_reducible refine LeO.bind ?_ (fun _ => ?_))
      | exact ih0 _ _ _ _ _ _
      | exact LeO.none _
      | refine LeO.ite ?_ ?_
      | refine LeO.bind ?_ (fun _ => ?_)
set_option maxHeartbeats 8000000 in
set_option maxRecDepth 100000 in
theorem wheels_field_order.calls (k : Nat) (a0_0 : Int) (a0_1 : Int) (a0_2 : Int) (a1 : Int) (r : Int) (w : World) (h : wheels_field_order.f k a0_0 a0_1 a0_2 a1 = some r) :
    Calls Tryd.prog 107 #[.agg #[.int .i64 a0_0, .int .i64 a0_1, .int .i64 a0_2], .int .i64 a1] w fun e w' => e = .returned (.int .i64 r) ∧ Below w.heap.size w w' := by
  have hu80 := Tryd.underlying80
  have HB := Aside0.mk (Below.refl w.heap.size w)
  have H : (wheels_field_order.l0 k a1 1 a1 a0_0 a0_1 a0_2) = some r := h
  clear h
  have H' := Aside0.mk H
  clear H
  go_enter Tryd.func107, Tryd.ntmps107
  go_wp2_with (first | ((with_reducible refine gate_dst (N := 2) rfl ?_); refine box_event ?hg (N := 2) ?hd (cs := #[.int .i64 a0_0, .int .i64 a0_1, .int .i64 a0_2]) (t := 80) ?hr ?_; (case hd => rfl); (case hg => rfl); (case hr => first | (go_simp; done) | (go_simp; rfl)); intro gb1001 hg w3 hbox hb; have n0_ := Aside0.mk (below_step (by repeat (first | (with_reducible first | exact HB.out | apply below_alloc | apply pw_below_drewN | apply below_drew1) | exact HB.out)) hb); have n1_ := Aside0.mk (hbox); have n2_ := Aside0.mk ((by rw [hg]; exact (below_size (by repeat (first | (with_reducible first | exact HB.out | apply below_alloc | apply pw_below_drewN | apply below_drew1) | exact HB.out))) : w.heap.size ≤ gb1001)); have n3_ := Aside0.mk ((by rw [hg]; exact (below_size (by repeat (first | (with_reducible first | exact HB.out | apply below_alloc | apply pw_below_drewN | apply below_drew1) | exact HB.out))) : w.heap.size ≤ gb1001)); clear HB; have HB := n0_; have BK1001 := n1_; have GW1001 := n2_; have GE1001 := n3_; clear n0_ n1_ n2_ n3_; clear hb hbox hg))
  go_loopg [5, 6] k (fun kq v5 v6 w' => ∃ (x5_1 : Int) (x6_1 : Int), v5 = .int .i64 x5_1 ∧ v6 = .int .i64 x6_1 ∧ Aside0 (wheels_field_order.l0 kq a1 x5_1 x6_1 a0_0 a0_1 a0_2 = some r) ∧ Aside0 (kq ≤ k) ∧ Aside0 (w'.heap[gb1001]? = some (.cells #[.int .i64 a0_0, .int .i64 a0_1, .int .i64 a0_2] 80 (0, 0))) ∧ Aside0 (Below w.heap.size w w'))
  case atStart => exact ⟨(1), (a1), (by first | rfl | (simp; done) | (simp [*]; done)), (by first | rfl | (simp; done) | (simp [*]; done)), H', ⟨Nat.le_refl _⟩, ⟨by (with_reducible repeat (first | refine blk_drewN ?_ _ | refine blk_drew ?_ | refine blk_alloc ?_ _)); exact BK1001.out⟩, ⟨by repeat (first | (with_reducible first | exact HB.out | apply below_alloc | apply pw_below_drewN | apply below_drew1 | refine below_set ?_ GE1001.out) | exact HB.out)⟩⟩
  case round =>
    clear H'
    try clear c1
    try clear p2
    obtain ⟨x5_1, x6_1, rfl, rfl, HA, HK1, BK1001, HB⟩ := hrel
    cases gk with
    | zero => exact absurd HA.out (by simp [wheels_field_order.l0])
    | succ k1 =>
      have H := HA.out
      clear HA
      simp only [wheels_field_order.l0] at H
      by_cases c4 : x6_1 = 1
      · rw [if_pos c4] at H
        have c4b0 : (x6_1 == 1) = true := beq_iff_eq.mpr c4
        have c4b1 : (x6_1 != 1) = false := bne_eq_false_iff_eq.mpr c4
        clear c4
        obtain rfl := Option.some.inj H
        go_wp2
        go_ret
        exact ⟨by first | rfl | (simp [errW_none, errW_some] <;> rfl) | (simp [*, errW_none, errW_some] <;> rfl), by repeat (first | (with_reducible first | exact HB.out | apply below_alloc | apply pw_below_drewN | apply below_drew1 | refine below_set ?_ GE1001.out) | exact HB.out)⟩
      · rw [if_neg c4] at H
        have c4b0 : (x6_1 == 1) = false := beq_eq_false_iff_ne.mpr c4
        have c4b1 : (x6_1 != 1) = true := bne_iff_ne.mpr c4
        by_cases c5 : a0_1 = 0
        · rw [if_pos c5] at H
          exact absurd H (by simp)
        · rw [if_neg c5] at H
          have c5b0 : (a0_1 == 0) = false := beq_eq_false_iff_ne.mpr c5
          have c5b1 : (a0_1 != 0) = true := bne_iff_ne.mpr c5
          have H' := Aside0.mk H
          clear H
          have hcz6_0 : wr.cell? ⟨gb1001, 0, none⟩ = some (.int .i64 a0_0) := (blk_cell BK1001.out 0).trans rfl
          have hcz6_1 : wr.cell? ⟨gb1001, 1, none⟩ = some (.int .i64 a0_1) := (blk_cell BK1001.out 1).trans rfl
          have hcz6_2 : wr.cell? ⟨gb1001, 2, none⟩ = some (.int .i64 a0_2) := (blk_cell BK1001.out 2).trans rfl
          have hfz6_0 := blk_frozen BK1001.out 0
          have hfz6_1 := blk_frozen BK1001.out 1
          have hfz6_2 := blk_frozen BK1001.out 2
          go_wp2
          go_roundg k1
          case measure => have := HK1.out; omega
          case rel => exact ⟨(wrap64 (x5_1 + 1)), (Int.tmod (wrap64 (x6_1 * a1)) a0_1), (by first | rfl | (simp; done) | (simp [*]; done)), (by first | rfl | (simp; done) | (simp [*]; done)), H', ⟨by have := HK1.out; omega⟩, ⟨by (with_reducible repeat (first | refine blk_drewN ?_ _ | refine blk_drew ?_ | refine blk_alloc ?_ _)); exact BK1001.out⟩, ⟨by repeat (first | (with_reducible first | exact HB.out | apply below_alloc | apply pw_below_drewN | apply below_drew1 | refine below_set ?_ GE1001.out) | exact HB.out)⟩⟩

end Go.Proofs.YtfpnojcbhbkfaaaDoor.P
namespace Go.Proofs.YtfpnojcbhbkfaaaDoor.P
open Go.RowKit Go.Proofs.YtfpnojcbhbkfaaaDoorW.PrintWords Go.Proofs.YtfpnojcbhbkfaaaDoorW.PrintLast Go.Proofs.YtfpnojcbhbkfaaaDoorW.PrintMore
attribute [local go_sem] max2_int min2_int max_two min_two max_three min_three max_four min_four   -- for this text's walks alone
set_option linter.unusedVariables false
set_option linter.unusedSimpArgs false

/-! a circle's field: its prime and its root -/
def qT : List Nat := [0, 0, 5, 7, 13, 11, 13, 29, 17, 19, 31, 23, 37, 53, 29, 31, 97]
def wT : List Nat := [0, 0, 4, 2, 5, 3, 4, 7, 2, 4, 15, 2, 8, 10, 4, 7, 8]
def qF (n : Nat) : Nat := qT.getD n 0
def wF (n : Nat) : Nat := wT.getD n 0
theorem field_tab : ((List.range' 2 15).all fun n => decide (2 * n + 1 ≤ qF n) && decide (qF n ≤ 97) && decide (2 ≤ wF n) && decide (wF n < qF n) && decide (qF n % n = 1) && decide (wheels_isPrime.f 60 (qF n : Int) = some true) &&
    ((List.range' (2 * n + 1) (qF n - (2 * n + 1))).all fun q => match wheels_isPrime.f 60 (q : Int) with | some b => !b || decide (q % n ≠ 1) | none => false) &&
    decide (wheels_field_order.f 200 (n : Int) (qF n : Int) (wF n : Int) (wF n : Int) = some (n : Int)) &&
    ((List.range' 2 (wF n - 2)).all fun x => match wheels_field_order.f 200 (n : Int) (qF n : Int) (x : Int) (x : Int) with | some k => decide (k ≠ (n : Int)) | none => false)) = true := by kernel_rfl
theorem field_at {n : Nat} (h2 : 2 ≤ n) (h16 : n ≤ 16) : 2 * n + 1 ≤ qF n ∧ qF n ≤ 97 ∧ 2 ≤ wF n ∧ wF n < qF n ∧ qF n % n = 1 ∧ wheels_isPrime.f 60 (qF n : Int) = some true ∧
    (∀ q, 2 * n + 1 ≤ q → q < qF n → ∃ b, wheels_isPrime.f 60 (q : Int) = some b ∧ (b = false ∨ q % n ≠ 1)) ∧
    wheels_field_order.f 200 (n : Int) (qF n : Int) (wF n : Int) (wF n : Int) = some (n : Int) ∧
    (∀ x, 2 ≤ x → x < wF n → ∃ k, wheels_field_order.f 200 (n : Int) (qF n : Int) (x : Int) (x : Int) = some k ∧ k ≠ (n : Int)) := by
  have h := List.all_eq_true.1 field_tab n (List.mem_range'_1.2 ⟨h2, by omega⟩)
  simp only [Bool.and_eq_true, decide_eq_true_eq] at h
  obtain ⟨⟨⟨⟨⟨⟨⟨⟨a1, a2⟩, a3⟩, a4⟩, a5⟩, a6⟩, a7⟩, a8⟩, a9⟩ := h
  refine ⟨a1, a2, a3, a4, a5, a6, fun q hq1 hq2 => ?_, a8, fun x hx1 hx2 => ?_⟩
  · have := List.all_eq_true.1 a7 q (List.mem_range'_1.2 ⟨hq1, by omega⟩)
    cases hb : wheels_isPrime.f 60 (q : Int) with
    | none => rw [hb] at this; cases this
    | some b =>
      rw [hb] at this
      simp only [Bool.or_eq_true, Bool.not_eq_true', decide_eq_true_eq] at this
      exact ⟨b, rfl, this⟩
  · have := List.all_eq_true.1 a9 x (List.mem_range'_1.2 ⟨hx1, by omega⟩)
    cases hb : wheels_field_order.f 200 (n : Int) (qF n : Int) (x : Int) (x : Int) with
    | none => rw [hb] at this; cases this
    | some k =>
      rw [hb] at this
      exact ⟨k, rfl, of_decide_eq_true this⟩

end Go.Proofs.YtfpnojcbhbkfaaaDoor.P
namespace Go.Proofs.YtfpnojcbhbkfaaaDoor.P
open Go.RowKit Go.Proofs.YtfpnojcbhbkfaaaDoorW.PrintWords Go.Proofs.YtfpnojcbhbkfaaaDoorW.PrintLast Go.Proofs.YtfpnojcbhbkfaaaDoorW.PrintMore
attribute [local go_sem] max2_int min2_int max_two min_two max_three min_three max_four min_four   -- for this text's walks alone
set_option linter.unusedVariables false
set_option linter.unusedSimpArgs false

/-! wheels.read: a circle's field, for no wheel and for one that is fit -/
theorem drawn_two {a b c : World} (h : Drawn0 a b) (k : Drawn0 b c) : Drawn0 a c := by
  obtain ⟨x, rfl⟩ := h
  obtain ⟨y, rfl⟩ := k
  exact ⟨x + y, by rw [World.drewN_drewN]⟩
structure RdAt (n q f Bn BF : Nat) (w : World) : Prop where
  n0 : w.cell? ⟨Bn, 0, none⟩ = some (.int .i64 (n : Int))
  f0 : w.cell? ⟨BF, 0, none⟩ = some (.int .i64 (n : Int))
  f1 : w.cell? ⟨BF, 1, none⟩ = some (.int .i64 (q : Int))
  f2 : w.cell? ⟨BF, 2, none⟩ = some (.int .i64 (f : Int))
theorem RdAt.to {n q f Bn BF : Nat} {w W : World} (h : RdAt n q f Bn BF w) (hb : Below w.heap.size w W) : RdAt n q f Bn BF W := ⟨cell_to h.n0 hb, cell_to h.f0 hb, cell_to h.f1 hb, cell_to h.f2 hb⟩
theorem minL_ge {l : List Nat} (h : l ≠ []) : 0 ≤ minL (natsI l) := by
  obtain ⟨x, l, rfl⟩ := List.exists_cons_of_ne_nil h
  show 0 ≤ (natsI l).foldl min (x : Int)
  have go : ∀ (l : List Nat) (m : Int), 0 ≤ m → 0 ≤ (natsI l).foldl min m := by
    intro l
    induction l with
    | nil => intro m hm; exact hm
    | cons y l ih => intro m hm; exact ih _ (by show 0 ≤ min m (y : Int); omega)
  exact go l _ (by omega)
theorem maxL_lt {l : List Nat} {q : Nat} (h : l ≠ []) (hq : ∀ x ∈ l, x < q) : maxL (natsI l) < (q : Int) := by
  obtain ⟨x, l, rfl⟩ := List.exists_cons_of_ne_nil h
  show (natsI l).foldl max (x : Int) < (q : Int)
  have go : ∀ (l : List Nat) (m : Int), (∀ x ∈ l, x < q) → m < (q : Int) → (natsI l).foldl max m < (q : Int) := by
    intro l
    induction l with
    | nil => intro m _ hm; exact hm
    | cons y l ih => intro m hl hm; exact ih _ (fun x hx => hl x (by simp [hx])) (by show max m (y : Int) < _; have := hl y (by simp); omega)
  exact go l _ (fun x hx => hq x (by simp [hx])) (by have := hq x (by simp); omega)
set_option maxHeartbeats 8000000 in
set_option maxRecDepth 100000 in
theorem read1_calls {n q f Bn BF : Nat} {l : List Nat} {A : Option Addr} {c : Nat} (hn : 1 ≤ n) (hl : l.length = n) (hlq : ∀ x ∈ l, x < q) (w : World) (h : RdAt n q f Bn BF w) (hr : Kd.C (Kd.int .i64) w A (natsI l).length (natsI l)) (hc : l.length ≤ c) :
    Calls Tryd.prog 109 #[.slice A l.length c, .pointer (some ⟨Bn, 0, none⟩), .pointer (some ⟨BF, 0, none⟩)] w fun e w' => e = .returned (.bool false) ∧ Drawn0 w w' := by
  have hne : l ≠ [] := fun e => by rw [e] at hl; simp at hl; omega
  obtain ⟨mn, hmn⟩ : ∃ x, x = minL (natsI l) := ⟨_, rfl⟩
  obtain ⟨mx, hmx⟩ : ∃ x, x = maxL (natsI l) := ⟨_, rfl⟩
  have hmn0 : 0 ≤ mn := by rw [hmn]; exact minL_ge hne
  have hmxq : mx < (q : Int) := by rw [hmx]; exact maxL_lt hne hlq
  have hlen := natsI_len l
  have HMI := Aside0.mk (fun (V : World) (hV : Below w.heap.size w V) => slices_Min_int_int.calls A c (natsI l) mn V (Kd.C_below hr hV) (by rw [hlen]; exact hc) (by unfold slices_Min_int_int.f; rw [hlen, if_neg (by omega), hmn]))
  have HMA := Aside0.mk (fun (V : World) (hV : Below w.heap.size w V) => slices_Max_int_int.calls A c (natsI l) mx V (Kd.C_below hr hV) (by rw [hlen]; exact hc) (by unfold slices_Max_int_int.f; rw [hlen, if_neg (by omega), hmx]))
  rw [hlen, hl] at HMI HMA
  rw [hl]
  have n0 := h.n0
  have f1 := h.f1
  clear hlq hne hmn hmx hr h hlen
  go_enter Tryd.func109, Tryd.ntmps109
  go_wp2_with fail
  have hS0 : w.drew.cell? ⟨Bn, 0, none⟩ = some (.int .i64 (n : Int)) ∧ w.drew.cell? ⟨BF, 1, none⟩ = some (.int .i64 (q : Int)) := ⟨n0, f1⟩
  have hmn1 : decide (mn < 0) = false := decide_eq_false (by omega)
  have hmx1 : decide (mx ≥ (q : Int)) = false := decide_eq_false (by omega)
  have hmx2 : decide ((q : Int) ≤ mx) = false := decide_eq_false (by omega)
  have hmnn : ¬ mn < 0 := by omega
  refine start_ (n := 17) (S := (fun w' => w'.cell? ⟨Bn, 0, none⟩ = some (.int .i64 (n : Int)) ∧ w'.cell? ⟨BF, 1, none⟩ = some (.int .i64 (q : Int)))) (ds := []) #[false, false, false, false, false, false, false, false, false, false, false, false, false, false, false, false, false] (by kernel_rfl) rfl rfl hS0 (fun _ => ?_)
  refine pure_ (i := 0) (N := some 5) (v := ?_) (a' := ?_) #[true, false, false, false, false, false, false, false, false, false, false, false, false, false, false, false, false] rfl rfl (by kernel_rfl) (fun _ _ _ h => h) (Or.inl ⟨by rfl, ?_⟩) ?_ ?_
  rotate_left
  · intro w'
    go_simp
    with_reducible rfl
  rotate_left
  · simp only [Act.put, List.setIfInBounds_toArray, List.set_cons_zero, List.set_cons_succ, i64_w, i32_w]
    rfl
  refine pure_ (i := 1) (N := some 6) (v := ?_) (a' := ?_) #[true, true, false, false, false, false, false, false, false, false, false, false, false, false, false, false, false] rfl rfl (by kernel_rfl) (fun _ _ _ h => h) (Or.inl ⟨by rfl, ?_⟩) ?_ ?_
  rotate_left
  · intro w'
    go_simp
    with_reducible rfl
  rotate_left
  · simp only [Act.put, List.setIfInBounds_toArray, List.set_cons_zero, List.set_cons_succ, i64_w, i32_w]
    rfl
  refine take_ (i := 2) (N := some 7) (v := ?_) (a' := ?_) #[true, true, true, false, false, false, false, false, false, false, false, false, false, false, false, false, false] rfl rfl (by kernel_rfl) (fun _ _ _ h => h) (Or.inl ⟨by rfl, ?_⟩) hS0 ?_ ?_
  rotate_left
  · rintro w' ⟨k0', k1'⟩
    go_simp
    with_reducible rfl
  rotate_left
  · simp only [Act.put, List.setIfInBounds_toArray, List.set_cons_zero, List.set_cons_succ, i64_w, i32_w]
    rfl
  refine pure_ (i := 3) (N := some 8) (v := ?_) (a' := ?_) #[true, true, true, true, false, false, false, false, false, false, false, false, false, false, false, false, false] rfl rfl (by kernel_rfl) (fun _ _ _ h => h) (Or.inl ⟨by rfl, ?_⟩) ?_ ?_
  rotate_left
  · intro w'
    go_simp
    with_reducible rfl
  rotate_left
  · simp only [Act.put, List.setIfInBounds_toArray, List.set_cons_zero, List.set_cons_succ, i64_w, i32_w]
    rfl
  refine pure_ (i := 4) (N := some 9) (v := ?_) (a' := ?_) #[true, true, true, true, true, false, false, false, false, false, false, false, false, false, false, false, false] rfl rfl (by kernel_rfl) (fun _ _ _ h => h) (Or.inl ⟨by rfl, ?_⟩) ?_ ?_
  rotate_left
  · intro w'
    go_simp
    with_reducible rfl
  rotate_left
  · simp only [Act.put, List.setIfInBounds_toArray, List.set_cons_zero, List.set_cons_succ, i64_w, i32_w]
    rfl
  refine pure_ (i := 5) (N := some 10) (v := ?_) (a' := ?_) #[true, true, true, true, true, true, false, false, false, false, false, false, false, false, false, false, false] rfl rfl (by kernel_rfl) (fun _ _ _ h => h) (Or.inl ⟨by rfl, ?_⟩) ?_ ?_
  rotate_left
  · intro w'
    go_simp
    with_reducible rfl
  rotate_left
  · simp only [Act.put, List.setIfInBounds_toArray, List.set_cons_zero, List.set_cons_succ, i64_w, i32_w]
    rfl
  refine one_ (i := 6) (N := some 11) #[true, true, true, true, true, true, true, false, false, false, false, false, false, false, false, false, false] rfl rfl (by kernel_rfl) (by decide) (fun K hK => ?_)
  refine goes_ Tryd.func101 (by kernel_rfl) rfl #[.slice A n c] (by rfl) rfl rfl (by simp only [List.map_toArray, List.map_cons, List.map_nil]; rfl) ?_
  refine (HMI.out _ (below_drew (Below.refl _ _))).mono ?_
  rintro e w5 ⟨rfl, hd5⟩
  refine ⟨_, rfl, ?_⟩
  have hS5 := (show w5.cell? ⟨Bn, 0, none⟩ = some (.int .i64 (n : Int)) ∧ w5.cell? ⟨BF, 1, none⟩ = some (.int .i64 (q : Int)) from ⟨cell_to hS0.1 hd5.below, cell_to hS0.2 hd5.below⟩)
  have HD5 := Aside0.mk (show Drawn0 w w5 from drawn_two ⟨1, rfl⟩ hd5)
  clear hd5
  refine hK.out _ _ hS5 (fun _ => ?_)
  clear hK K
  refine norm_ (a' := ?_) ?_ ?_
  rotate_left
  · show Act.put _ (some 11) _ = _
    simp only [Act.put, List.setIfInBounds_toArray, List.set_cons_zero, List.set_cons_succ, i64_w, i32_w]
    rfl
  refine pure_ (i := 7) (N := some 12) (v := ?_) (a' := ?_) #[true, true, true, true, true, true, true, true, false, false, false, false, false, false, false, false, false] rfl rfl (by kernel_rfl) (fun _ _ _ h => h) (Or.inl ⟨by rfl, ?_⟩) ?_ ?_
  rotate_left
  · intro w'
    go_simp
    with_reducible rfl
  rotate_left
  · simp only [Act.put, List.setIfInBounds_toArray, List.set_cons_zero, List.set_cons_succ, i64_w, i32_w]
    rfl
  refine pure_ (i := 8) (N := some 13) (v := ?_) (a' := ?_) #[true, true, true, true, true, true, true, true, true, false, false, false, false, false, false, false, false] rfl rfl (by kernel_rfl) (fun _ _ _ h => h) (Or.inl ⟨by rfl, ?_⟩) ?_ ?_
  rotate_left
  · intro w'
    go_simp
    with_reducible rfl
  rotate_left
  · simp only [Act.put, List.setIfInBounds_toArray, List.set_cons_zero, List.set_cons_succ, i64_w, i32_w]
    rfl
  refine pure_ (i := 9) (N := some 14) (v := ?_) (a' := ?_) #[true, true, true, true, true, true, true, true, true, true, false, false, false, false, false, false, false] rfl rfl (by kernel_rfl) (fun _ _ _ h => h) (Or.inl ⟨by rfl, ?_⟩) ?_ ?_
  rotate_left
  · intro w'
    go_simp
    with_reducible rfl
  rotate_left
  · simp only [Act.put, List.setIfInBounds_toArray, List.set_cons_zero, List.set_cons_succ, i64_w, i32_w]
    rfl
  refine pure_ (i := 10) (N := some 15) (v := ?_) (a' := ?_) #[true, true, true, true, true, true, true, true, true, true, true, false, false, false, false, false, false] rfl rfl (by kernel_rfl) (fun _ _ _ h => h) (Or.inl ⟨by rfl, ?_⟩) ?_ ?_
  rotate_left
  · intro w'
    go_simp
    with_reducible rfl
  rotate_left
  · simp only [Act.put, List.setIfInBounds_toArray, List.set_cons_zero, List.set_cons_succ, i64_w, i32_w]
    rfl
  refine pure_ (i := 12) (N := some 17) (v := ?_) (a' := ?_) #[true, true, true, true, true, true, true, true, true, true, true, false, true, false, false, false, false] rfl rfl (by kernel_rfl) (fun _ _ _ h => h) (Or.inl ⟨by rfl, ?_⟩) ?_ ?_
  rotate_left
  · intro w'
    go_simp
    with_reducible rfl
  rotate_left
  · simp only [Act.put, List.setIfInBounds_toArray, List.set_cons_zero, List.set_cons_succ, i64_w, i32_w]
    rfl
  refine take_ (i := 13) (N := some 18) (v := ?_) (a' := ?_) #[true, true, true, true, true, true, true, true, true, true, true, false, true, true, false, false, false] rfl rfl (by kernel_rfl) (fun _ _ _ h => h) (Or.inl ⟨by rfl, ?_⟩) hS5 ?_ ?_
  rotate_left
  · rintro w' ⟨k0', k1'⟩
    go_simp
    with_reducible rfl
  rotate_left
  · simp only [Act.put, List.setIfInBounds_toArray, List.set_cons_zero, List.set_cons_succ, i64_w, i32_w]
    rfl
  refine one_ (i := 11) (N := some 16) #[true, true, true, true, true, true, true, true, true, true, true, true, true, true, false, false, false] rfl rfl (by kernel_rfl) (by decide) (fun K hK => ?_)
  refine goes_ Tryd.func102 (by kernel_rfl) rfl #[.slice A n c] (by rfl) rfl rfl (by simp only [List.map_toArray, List.map_cons, List.map_nil]; rfl) ?_
  refine (HMA.out _ HD5.out.below).mono ?_
  rintro e w6 ⟨rfl, hd6⟩
  refine ⟨_, rfl, ?_⟩
  have HD := Aside0.mk (show Drawn0 w w6 from drawn_two HD5.out hd6)
  have hS6 := (show w6.cell? ⟨Bn, 0, none⟩ = some (.int .i64 (n : Int)) ∧ w6.cell? ⟨BF, 1, none⟩ = some (.int .i64 (q : Int)) from ⟨cell_to hS5.1 hd6.below, cell_to hS5.2 hd6.below⟩)
  clear hd6
  refine hK.out _ _ hS6 (fun _ => ?_)
  clear hK K
  refine norm_ (a' := ?_) ?_ ?_
  rotate_left
  · show Act.put _ (some 16) _ = _
    simp only [Act.put, List.setIfInBounds_toArray, List.set_cons_zero, List.set_cons_succ, i64_w, i32_w]
    rfl
  refine pure_ (i := 14) (N := some 19) (v := ?_) (a' := ?_) #[true, true, true, true, true, true, true, true, true, true, true, true, true, true, true, false, false] rfl rfl (by kernel_rfl) (fun _ _ _ h => h) (Or.inl ⟨by rfl, ?_⟩) ?_ ?_
  rotate_left
  · intro w'
    go_simp
    with_reducible rfl
  rotate_left
  · simp only [Act.put, List.setIfInBounds_toArray, List.set_cons_zero, List.set_cons_succ, i64_w, i32_w]
    rfl
  refine pure_ (i := 15) (N := some 20) (v := ?_) (a' := ?_) #[true, true, true, true, true, true, true, true, true, true, true, true, true, true, true, true, false] rfl rfl (by kernel_rfl) (fun _ _ _ h => h) (Or.inl ⟨by rfl, ?_⟩) ?_ ?_
  rotate_left
  · intro w'
    go_simp
    with_reducible rfl
  rotate_left
  · simp only [Act.put, List.setIfInBounds_toArray, List.set_cons_zero, List.set_cons_succ, i64_w, i32_w]
    rfl
  refine pure_ (i := 16) (N := some 4) (v := ?_) (a' := ?_) #[true, true, true, true, true, true, true, true, true, true, true, true, true, true, true, true, true] rfl rfl (by kernel_rfl) (fun _ _ _ h => h) (Or.inl ⟨by rfl, ?_⟩) ?_ ?_
  rotate_left
  · intro w'
    go_simp
    with_reducible rfl
  rotate_left
  · simp only [Act.put, List.setIfInBounds_toArray, List.set_cons_zero, List.set_cons_succ, i64_w, i32_w]
    rfl
  refine done_ (by kernel_rfl) ?_
  go_wp2
  go_ret
  exact ⟨rfl, HD.out⟩
set_option maxHeartbeats 8000000 in
set_option maxRecDepth 100000 in
theorem indexR_nil (g : Nat) (lb : Array Value) (w : World) : Calls Tryd.prog 135 #[.slice none 0 0, .func (.func g) #[] lb] w fun e w' => e = .returned (.int .i64 (-1)) ∧ Drawn0 w w' := by
  go_enter Tryd.func135, Tryd.ntmps135
  go_wp2_with fail
  go_loopg [8] 1 (fun gg s8 wr => s8 = .int .i64 0 ∧ wr = w)
  case atStart => exact ⟨rfl, rfl⟩
  case round =>
    obtain ⟨rfl, rfl⟩ := hrel
    go_wp2
    go_ret
    exact ⟨rfl, ⟨0, rfl⟩⟩
set_option maxHeartbeats 8000000 in
set_option maxRecDepth 100000 in
theorem indexR_one (g : Nat) (lb : Array Value) (R : Nat) (v : Value) (w : World) (eg : ∀ args w, (callFunc g args).run Tryd.prog w = .ok (.enter g args) w) (hc : w.cell? ⟨R, 0, none⟩ = some v)
    (hg : ∀ V, Below w.heap.size w V → Calls Tryd.prog g (#[v] ++ lb) V fun e w' => e = .returned (.bool false) ∧ Drawn0 V w') : Calls Tryd.prog 135 #[.slice (some ⟨R, 0, none⟩) 1 1, .func (.func g) #[] lb] w fun e w' => e = .returned (.int .i64 (-1)) ∧ Drawn0 w w' := by
  have HG := Aside0.mk hg
  clear hg
  go_enter Tryd.func135, Tryd.ntmps135
  go_wp2_with fail
  go_loopg [8] 2 (fun gg s8 wr => ∃ k : Nat, s8 = .int .i64 (k : Int) ∧ (k = 0 ∨ k = 1) ∧ k + gg = 2 ∧ Drawn0 w wr)
  case atStart => exact ⟨0, rfl, .inl rfl, rfl, ⟨0, rfl⟩⟩
  case round =>
    obtain ⟨k, rfl, hk, hkg, ⟨d, rfl⟩⟩ := hrel
    rcases hk with rfl | rfl
    · have HC := Aside0.mk (HG.out (w.drewN d) (pw_below_drewN (Below.refl _ _) d))
      go_wp2_with fail
      refine HC.out.mono ?_
      rintro e w5 ⟨rfl, ⟨dq, rfl⟩⟩
      go_wp2_with fail
      go_roundg 1
      case measure => omega
      case rel => exact ⟨1, by go_num, .inr rfl, rfl, ⟨_, rfl⟩⟩
    · go_wp2
      go_ret
      exact ⟨rfl, ⟨_, rfl⟩⟩
set_option maxHeartbeats 8000000 in
set_option maxRecDepth 100000 in
theorem containsR (g : Nat) (lb : Array Value) (v : Value) (w : World) (h : Calls Tryd.prog 135 #[v, .func (.func g) #[] lb] w fun e w' => e = .returned (.int .i64 (-1)) ∧ Drawn0 w w') : Calls Tryd.prog 108 #[v, .func (.func g) #[] lb] w fun e w' => e = .returned (.bool false) ∧ Drawn0 w w' := by
  have H := Aside0.mk h
  clear h
  go_enter Tryd.func108, Tryd.ntmps108
  go_wp2_with fail
  refine H.out.mono ?_
  rintro e w5 ⟨rfl, ⟨dq, rfl⟩⟩
  go_wp2
  go_ret
  exact ⟨rfl, ⟨_, rfl⟩⟩
theorem results_fld2 {fn : Func} {p u : Tmp} (h : fn.results = #[.cell p 80, .tmp u]) (tmps : Array Value) (w : World) (bq : Nat) (x y z : Int) (v : Value)
    (hp : tmps.getD p undef = .pointer (some ⟨bq, 0, none⟩)) (hv : tmps.getD u undef = v)
    (c0 : w.cell? ⟨bq, 0, none⟩ = some (.int .i64 x)) (c1 : w.cell? ⟨bq, 1, none⟩ = some (.int .i64 y)) (c2 : w.cell? ⟨bq, 2, none⟩ = some (.int .i64 z)) :
    (results fn tmps).run Tryd.prog w = .ok (.tuple #[.agg #[.int .i64 x, .int .i64 y, .int .i64 z], v]) w := by
  have hp' : tmps[p]?.getD undef = .pointer (some ⟨bq, 0, none⟩) := by simpa using hp
  have hv' : tmps[u]?.getD undef = v := by simpa using hv
  unfold results
  simp only [h]
  go_simp
theorem results_fld3 {fn : Func} {p u s : Tmp} (h : fn.results = #[.cell p 80, .tmp u, .tmp s]) (tmps : Array Value) (w : World) (bq : Nat) (x y z : Int) (v v2 : Value)
    (hp : tmps.getD p undef = .pointer (some ⟨bq, 0, none⟩)) (hv : tmps.getD u undef = v) (hv2 : tmps.getD s undef = v2)
    (c0 : w.cell? ⟨bq, 0, none⟩ = some (.int .i64 x)) (c1 : w.cell? ⟨bq, 1, none⟩ = some (.int .i64 y)) (c2 : w.cell? ⟨bq, 2, none⟩ = some (.int .i64 z)) :
    (results fn tmps).run Tryd.prog w = .ok (.tuple #[.agg #[.int .i64 x, .int .i64 y, .int .i64 z], v, v2]) w := by
  have hp' : tmps[p]?.getD undef = .pointer (some ⟨bq, 0, none⟩) := by simpa using hp
  have hv' : tmps[u]?.getD undef = v := by simpa using hv
  have hv2' : tmps[s]?.getD undef = v2 := by simpa using hv2
  unfold results
  simp only [h]
  go_simp
theorem fld_new (w : World) (o : Obj) (x y z : Int) : (∀ i, ((w.alloc o).alloc (.cells #[.int .i64 x, .int .i64 y, .int .i64 z] 80)).cell? ⟨w.heap.size + 1, i, none⟩ = (#[.int .i64 x, .int .i64 y, .int .i64 z] : Array Value)[i]?) := fun i => by
  have h := cells_new (w.alloc o) #[.int .i64 x, .int .i64 y, .int .i64 z] 80 i
  rwa [World.size_alloc] at h
set_option maxHeartbeats 8000000 in
set_option maxRecDepth 100000 in
theorem read_bad (a : Int) (h : a < 2 ∨ a > 16) (v : Value) (w : World) : Calls Tryd.prog 71 #[.int .i64 a, v] w fun e w' => e = .returned (.tuple #[.agg #[.int .i64 0, .int .i64 0, .int .i64 0], .bool false]) ∧ Below w.heap.size w w' := by
  have HB := Aside0.mk (Below.refl w.heap.size w)
  go_enter Tryd.func71, Tryd.ntmps71
  have HB2 := Aside0.mk (show Below w.heap.size w ((w.alloc (.cells #[.int .i64 a] 3)).alloc (.cells #[.int .i64 0, .int .i64 0, .int .i64 0] 80)) from below_alloc (below_alloc (Below.refl _ _) _) _)
  have HFN := Aside0.mk (fld_new w (.cells #[.int .i64 a] 3) 0 0 0)
  by_cases h2 : a < 2
  · go_wp2_with fail
    exact bodyPost_ret (results_fld2 rfl _ _ (w.heap.size + 1) 0 0 0 (.bool false) rfl rfl (HFN.out 0) (HFN.out 1) (HFN.out 2)) rfl ⟨rfl, HB2.out⟩
  · have h16 : a > 16 := by omega
    go_wp2_with fail
    exact bodyPost_ret (results_fld2 rfl _ _ (w.heap.size + 1) 0 0 0 (.bool false) rfl rfl (HFN.out 0) (HFN.out 1) (HFN.out 2)) rfl ⟨rfl, HB2.out⟩
theorem read_new (n : Nat) (w : World) : RdAt n (2 * n + 1) 2 w.heap.size (w.heap.size + 1 + 1) (((w.alloc (.cells #[.int .i64 (n : Int)] 3)).alloc (.cells #[.int .i64 0, .int .i64 0, .int .i64 0] 80)).alloc (.cells #[.int .i64 (n : Int), .int .i64 (2 * (n : Int) + 1), .int .i64 2] 80)) := by
  have e : ((2 * n + 1 : Nat) : Int) = 2 * (n : Int) + 1 := by omega
  have s1 : (w.alloc (.cells #[.int .i64 (n : Int)] 3)).heap.size = w.heap.size + 1 := World.size_alloc _ _
  have s2 : ((w.alloc (.cells #[.int .i64 (n : Int)] 3)).alloc (.cells #[.int .i64 0, .int .i64 0, .int .i64 0] 80)).heap.size = w.heap.size + 1 + 1 := by rw [World.size_alloc, s1]
  have c1 := cells_new w #[.int .i64 (n : Int)] 3 0
  have c3 := fun i => cells_new ((w.alloc (.cells #[.int .i64 (n : Int)] 3)).alloc (.cells #[.int .i64 0, .int .i64 0, .int .i64 0] 80)) #[.int .i64 (n : Int), .int .i64 (2 * (n : Int) + 1), .int .i64 2] 80 i
  rw [s2] at c3
  have hb : ∀ (W : World) (o : Obj), Below W.heap.size W (W.alloc o) := fun W o => below_alloc (Below.refl _ _) o
  exact ⟨cell_to (cell_to c1 (hb _ _)) (hb _ _), c3 0, by rw [e]; exact c3 1, c3 2⟩
theorem setc_other {W : World} {B o p : Nat} (v : Value) (hne : p ≠ o) : (W.setCell ⟨B, o, none⟩ v).cell? ⟨B, p, none⟩ = W.cell? ⟨B, p, none⟩ := by
  unfold World.cell? World.setCell
  simp only [Array.getElem?_modify, if_true]
  cases hW : W.heap[B]? with
  | none => rfl
  | some ob =>
    cases ob with
    | cells c t fz =>
      simp only [Option.isSome_none, Bool.false_eq_true, if_false, Option.map_some]
      rw [Array.getElem?_setIfInBounds_ne (by omega)]
    | _ => rfl
theorem frz_to {w W : World} {B i : Nat} {v : Value} (h : w.cell? ⟨B, 0, none⟩ = some v) (hf : w.frozen? ⟨B, i, none⟩ = false) (hb : Below w.heap.size w W) : W.frozen? ⟨B, i, none⟩ = false := (hb.frozen (p := ⟨B, i, none⟩) (show B < w.heap.size from World.block_lt_of_cell? w ⟨B, 0, none⟩ h)).trans hf
theorem frz_new (W : World) (c : Array Value) (t : TypeId) (i : Nat) : (W.alloc (.cells c t)).frozen? ⟨W.heap.size, i, none⟩ = false := by
  have h : (W.alloc (.cells c t)).heap[W.heap.size]? = some (.cells c t) := by unfold World.alloc; exact Array.getElem?_push_size
  unfold World.frozen?
  simp only [h]
  simp
theorem fld_set {W : World} {B : Nat} {x0 x1 x2 : Value} (a0 a1 a2 : Value) (h0 : W.cell? ⟨B, 0, none⟩ = some x0) (h1 : W.cell? ⟨B, 1, none⟩ = some x1) (h2 : W.cell? ⟨B, 2, none⟩ = some x2) :
    (((W.setCell ⟨B, 0, none⟩ a0).setCell ⟨B, 1, none⟩ a1).setCell ⟨B, 2, none⟩ a2).cell? ⟨B, 0, none⟩ = some a0 ∧ (((W.setCell ⟨B, 0, none⟩ a0).setCell ⟨B, 1, none⟩ a1).setCell ⟨B, 2, none⟩ a2).cell? ⟨B, 1, none⟩ = some a1 ∧ (((W.setCell ⟨B, 0, none⟩ a0).setCell ⟨B, 1, none⟩ a1).setCell ⟨B, 2, none⟩ a2).cell? ⟨B, 2, none⟩ = some a2 := by
  refine ⟨?_, ?_, ?_⟩
  · rw [setc_other _ (by decide), setc_other _ (by decide)]
    exact World.cell?_setCell_same' _ _ _ (by rw [h0]; rfl)
  · rw [setc_other _ (by decide)]
    exact World.cell?_setCell_same' _ _ _ (by rw [setc_other _ (by decide), h1]; rfl)
  · exact World.cell?_setCell_same' _ _ _ (by rw [setc_other _ (by decide), setc_other _ (by decide), h2]; rfl)
structure RdS (n q f Bn : Nat) (w W : World) : Prop where
  at_ : RdAt n q f Bn (Bn + 1 + 1) W
  bl : Below w.heap.size w W
  ge : w.heap.size ≤ Bn
  fr : ∀ i, W.frozen? ⟨Bn + 1, i, none⟩ = false ∧ W.frozen? ⟨Bn + 1 + 1, i, none⟩ = false
  z : ∀ i, i < 3 → W.cell? ⟨Bn + 1, i, none⟩ = some (.int .i64 0)
theorem RdS.to {n q f Bn : Nat} {w W V : World} (h : RdS n q f Bn w W) (hb : Below W.heap.size W V) : RdS n q f Bn w V :=
  ⟨h.at_.to hb, below_step h.bl hb, h.ge, fun i => ⟨frz_to (h.z 0 (by omega)) (h.fr i).1 hb, frz_to h.at_.f0 (h.fr i).2 hb⟩, fun i hi => cell_to (h.z i hi) hb⟩
theorem RdS.setq {n q f Bn : Nat} {w W : World} (h : RdS n q f Bn w W) (q' : Nat) : RdS n q' f Bn w (W.setCell ⟨Bn + 1 + 1, 1, none⟩ (.int .i64 (q' : Int))) := by
  have hge := h.ge
  have far : ∀ (B i : Nat) (v : Value), B ≠ Bn + 1 + 1 → W.cell? ⟨B, i, none⟩ = some v → (W.setCell ⟨Bn + 1 + 1, 1, none⟩ (.int .i64 (q' : Int))).cell? ⟨B, i, none⟩ = some v := fun B i v hB hc => (World.cell?_setCell_far _ _ _ _ (by simp only [ne_eq]; omega)).trans hc
  refine ⟨⟨far _ _ _ (by omega) h.at_.n0, ?_, ?_, ?_⟩, below_set h.bl (by omega), h.ge, fun i => ⟨(World.frozen?_setCell W _ _ _).trans (h.fr i).1, (World.frozen?_setCell W _ _ _).trans (h.fr i).2⟩, fun i hi => far _ _ _ (by omega) (h.z i hi)⟩
  · rw [setc_other _ (by decide)]; exact h.at_.f0
  · exact World.cell?_setCell_same' _ _ _ (by rw [h.at_.f1]; rfl)
  · rw [setc_other _ (by decide)]; exact h.at_.f2
theorem RdS.setf {n q f Bn : Nat} {w W : World} (h : RdS n q f Bn w W) (f' : Nat) : RdS n q f' Bn w (W.setCell ⟨Bn + 1 + 1, 2, none⟩ (.int .i64 (f' : Int))) := by
  have hge := h.ge
  have far : ∀ (B i : Nat) (v : Value), B ≠ Bn + 1 + 1 → W.cell? ⟨B, i, none⟩ = some v → (W.setCell ⟨Bn + 1 + 1, 2, none⟩ (.int .i64 (f' : Int))).cell? ⟨B, i, none⟩ = some v := fun B i v hB hc => (World.cell?_setCell_far _ _ _ _ (by simp only [ne_eq]; omega)).trans hc
  refine ⟨⟨far _ _ _ (by omega) h.at_.n0, ?_, ?_, ?_⟩, below_set h.bl (by omega), h.ge, fun i => ⟨(World.frozen?_setCell W _ _ _).trans (h.fr i).1, (World.frozen?_setCell W _ _ _).trans (h.fr i).2⟩, fun i hi => far _ _ _ (by omega) (h.z i hi)⟩
  · rw [setc_other _ (by decide)]; exact h.at_.f0
  · rw [setc_other _ (by decide)]; exact h.at_.f1
  · exact World.cell?_setCell_same' _ _ _ (by rw [h.at_.f2]; rfl)
theorem rdS_new (n : Nat) (w : World) : RdS n (2 * n + 1) 2 w.heap.size w (((w.alloc (.cells #[.int .i64 (n : Int)] 3)).alloc (.cells #[.int .i64 0, .int .i64 0, .int .i64 0] 80)).alloc (.cells #[.int .i64 (n : Int), .int .i64 (2 * (n : Int) + 1), .int .i64 2] 80)) := by
  have s1 : (w.alloc (.cells #[.int .i64 (n : Int)] 3)).heap.size = w.heap.size + 1 := World.size_alloc _ _
  have s2 : ((w.alloc (.cells #[.int .i64 (n : Int)] 3)).alloc (.cells #[.int .i64 0, .int .i64 0, .int .i64 0] 80)).heap.size = w.heap.size + 1 + 1 := by rw [World.size_alloc, s1]
  have c2 := fun i => cells_new (w.alloc (.cells #[.int .i64 (n : Int)] 3)) #[.int .i64 0, .int .i64 0, .int .i64 0] 80 i
  have e2 := fun i => frz_new (w.alloc (.cells #[.int .i64 (n : Int)] 3)) #[.int .i64 0, .int .i64 0, .int .i64 0] 80 i
  have e3 := fun i => frz_new ((w.alloc (.cells #[.int .i64 (n : Int)] 3)).alloc (.cells #[.int .i64 0, .int .i64 0, .int .i64 0] 80)) #[.int .i64 (n : Int), .int .i64 (2 * (n : Int) + 1), .int .i64 2] 80 i
  rw [s1] at c2 e2
  rw [s2] at e3
  have hb : ∀ (W : World) (o : Obj), Below W.heap.size W (W.alloc o) := fun W o => below_alloc (Below.refl _ _) o
  have hz : ∀ i, i < 3 → ((w.alloc (.cells #[.int .i64 (n : Int)] 3)).alloc (.cells #[.int .i64 0, .int .i64 0, .int .i64 0] 80)).cell? ⟨w.heap.size + 1, i, none⟩ = some (.int .i64 0) := fun i hi => by
    rw [c2 i]
    rcases i with _ | _ | _ | i
    · rfl
    · rfl
    · rfl
    · omega
  exact ⟨read_new n w, below_alloc (below_alloc (below_alloc (Below.refl _ _) _) _) _, Nat.le_refl _, fun i => ⟨frz_to (hz 0 (by omega)) (e2 i) (hb _ _), e3 i⟩, fun i hi => cell_to (hz i hi) (hb _ _)⟩
set_option maxHeartbeats 8000000 in
set_option maxRecDepth 100000 in
theorem read_good {n : Nat} (h2 : 2 ≤ n) (h16 : n ≤ 16) (v : Value) (w : World)
    (hC : ∀ (Bn BF : Nat) (V : World), RdAt n (qF n) (wF n) Bn BF V → Below w.heap.size w V → Calls Tryd.prog 108 #[v, .func (.func 109) #[] #[.pointer (some ⟨Bn, 0, none⟩), .pointer (some ⟨BF, 0, none⟩)]] V fun e W' => e = .returned (.bool false) ∧ Drawn0 V W') :
    Calls Tryd.prog 71 #[.int .i64 (n : Int), v] w fun e w' => e = .returned (.tuple #[.agg #[.int .i64 (n : Int), .int .i64 (qF n : Int), .int .i64 (wF n : Int)], .bool true]) ∧ Below w.heap.size w w' := by
  have HF := Aside0.mk (field_at h2 h16)
  have HCC := Aside0.mk hC
  have HN := Aside0.mk (And.intro h2 h16)
  have HNEW := Aside0.mk (rdS_new n w)
  have hmf : ∀ (fn : Fn) (first cap : Array Value) (w : World), (Instr.makeFunc fn first cap).run Tryd.prog w = .ok (.func fn first cap) w := fun _ _ _ _ => rfl
  have hn2 : ¬ (n : Int) < 2 := by omega
  have hn16 : ¬ (n : Int) > 16 := by omega
  have hn16b : (n : Int) ≤ 16 := by omega
  clear hC h2 h16
  go_enter Tryd.func71, Tryd.ntmps71
  go_wp2_with fail
  obtain ⟨W0, hW0⟩ : ∃ W0, (((w.alloc (.cells #[.int .i64 (n : Int)] 3)).alloc (.cells #[.int .i64 0, .int .i64 0, .int .i64 0] 80)).alloc (.cells #[.int .i64 (n : Int), .int .i64 (2 * (n : Int) + 1), .int .i64 2] 80)) = W0 := ⟨_, rfl⟩
  obtain ⟨Bn, hBn⟩ : ∃ B, w.heap.size = B := ⟨_, rfl⟩
  rw [hW0] at HNEW ⊢
  rw [hBn] at HNEW
  have HBN := Aside0.mk hBn
  clear hW0
  rw [hBn]
  clear hBn
  go_loopg [20] (qF n) (fun gg s20 wr => ∃ q : Nat, 2 * n + 1 ≤ q ∧ q + gg = qF n + (2 * n + 1) ∧ q ≤ qF n ∧ Aside0 (RdS n q 2 Bn w wr))
  case atStart => exact ⟨2 * n + 1, Nat.le_refl _, by omega, HF.out.1, HNEW⟩
  case round =>
    obtain ⟨q, hq1, hqg, hq2, HR⟩ := hrel
    have n0 := HR.out.at_.n0
    have f0 := HR.out.at_.f0
    have f1 := HR.out.at_.f1
    have f2 : wr.cell? ⟨Bn + 1 + 1, 2, none⟩ = some (.int .i64 2) := HR.out.at_.f2
    have fz := (HR.out.fr 1).2
    have HN2 := Aside0.mk (show 2 ≤ n ∧ n ≤ 16 ∧ qF n ≤ 97 from ⟨HN.out.1, HN.out.2, HF.out.2.1⟩)
    have hn0 : ¬ (n : Int) = 0 := by have := HN2.out; omega
    have hn0n : ¬ n = 0 := by have := HN2.out; omega
    by_cases hlt : q < qF n
    · obtain ⟨b, hb, hbn⟩ := HF.out.2.2.2.2.2.2.1 q hq1 hlt
      have HP := Aside0.mk (fun V => wheels_isPrime.calls 60 (q : Int) b V hb)
      have hwr : IntKind.i64.wrap ((q : Int) + 1) = ((q + 1 : Nat) : Int) := by rw [i64_id (by have := HN2.out; omega) (by have := HN2.out; omega)]; omega
      clear hb
      cases b with
      | false =>
        clear hbn
        go_wp2_with fail
        refine (HP.out _).mono ?_
        rintro e w5 ⟨rfl, ⟨dq, rfl⟩⟩
        go_wp2_with fail
        go_roundg (qF n + (2 * n + 1) - (q + 1))
        case measure => omega
        case rel =>
          have h := (HR.out.to (pw_below_drewN (Below.refl _ _) dq)).setq (q + 1)
          rw [show ((q + 1 : Nat) : Int) = (q : Int) + 1 by omega] at h
          exact ⟨q + 1, by omega, by omega, by omega, ⟨h⟩⟩
      | true =>
        have hm : ¬ q % n = 1 := by rcases hbn with h | h; cases h; exact h
        have hmz : ¬ (q : Int) % (n : Int) = 1 := by rw [← Int.natCast_emod]; omega
        have hmt : ¬ Int.tmod (q : Int) (n : Int) = 1 := by rw [Int.tmod_eq_emod_of_nonneg (by omega)]; exact hmz
        clear hbn
        go_wp2_with fail
        refine (HP.out _).mono ?_
        rintro e w5 ⟨rfl, ⟨dq, rfl⟩⟩
        go_wp2_with fail
        go_roundg (qF n + (2 * n + 1) - (q + 1))
        case measure => omega
        case rel =>
          have h := (HR.out.to (pw_below_drewN (Below.refl _ _) dq)).setq (q + 1)
          rw [show ((q + 1 : Nat) : Int) = (q : Int) + 1 by omega] at h
          exact ⟨q + 1, by omega, by omega, by omega, ⟨h⟩⟩
    · have hqe : q = qF n := by omega
      subst hqe
      obtain ⟨Q, hQ⟩ : ∃ Q, qF n = Q := ⟨_, rfl⟩
      have HP := Aside0.mk (fun V => wheels_isPrime.calls 60 (qF n : Int) true V HF.out.2.2.2.2.2.1)
      have hm : qF n % n = 1 := HF.out.2.2.2.2.1
      rw [hQ] at HP hm f1 HR
      have HQQ := Aside0.mk hQ
      have hmz : (Q : Int) % (n : Int) = 1 := by rw [← Int.natCast_emod]; omega
      have hmt : Int.tmod (Q : Int) (n : Int) = 1 := by rw [Int.tmod_eq_emod_of_nonneg (by omega)]; exact hmz
      clear hq1 hqg hq2 hlt hQ
      go_wp2_with fail
      refine (HP.out _).mono ?_
      rintro e w5 ⟨rfl, ⟨dq, rfl⟩⟩
      go_wp2_with fail
      obtain ⟨Wf, hWf⟩ : ∃ x, wF n = x := ⟨_, rfl⟩
      have HWW := Aside0.mk hWf
      have HR2 := Aside0.mk (HR.out.to (pw_below_drewN (Below.refl _ _) dq))
      have HWB := Aside0.mk (show 2 ≤ Wf ∧ Wf < Q ∧ Q ≤ 97 from by rw [← hWf, ← HQQ.out]; exact ⟨HF.out.2.2.1, HF.out.2.2.2.1, HF.out.2.1⟩)
      have HOR := Aside0.mk (show ∀ x : Nat, 2 ≤ x → x ≤ Wf → ∃ k : Int, wheels_field_order.f 200 (n : Int) (Q : Int) (x : Int) (x : Int) = some k ∧ (x < Wf → k ≠ (n : Int)) ∧ (x = Wf → k = (n : Int)) from fun x h2x hxW => by
        rw [← hWf] at hxW ⊢
        rw [← HQQ.out]
        by_cases hlt : x < wF n
        · obtain ⟨k, h1, h3⟩ := HF.out.2.2.2.2.2.2.2.2 x h2x hlt
          exact ⟨k, h1, fun _ => h3, fun e => by omega⟩
        · have e : x = wF n := by omega
          rw [e]
          exact ⟨_, HF.out.2.2.2.2.2.2.2.1, fun h => absurd h (by omega), fun _ => rfl⟩)
      clear hWf hm hmz hmt HR n0 f0 f1 f2 fz
      go_loopg [36] 200 (fun gg s36 wr2 => ∃ x : Nat, 2 ≤ x ∧ x ≤ Wf ∧ x + gg = 202 ∧ Aside0 (RdS n Q x Bn w wr2))
      case atStart => exact ⟨2, Nat.le_refl _, HWB.out.1, rfl, HR2⟩
      case round =>
        obtain ⟨x, hx2, hxW, hxg, HX⟩ := hrel
        obtain ⟨kk, hkk, hk1, hk2⟩ := HOR.out x hx2 hxW
        have HO := Aside0.mk (fun V => wheels_field_order.calls 200 (n : Int) (Q : Int) (x : Int) (x : Int) kk V hkk)
        have hS0 : wr.drew.cell? ⟨Bn, 0, none⟩ = some (.int .i64 (n : Int)) ∧ wr.drew.cell? ⟨Bn + 1 + 1, 0, none⟩ = some (.int .i64 (n : Int)) ∧ wr.drew.cell? ⟨Bn + 1 + 1, 1, none⟩ = some (.int .i64 (Q : Int)) ∧ wr.drew.cell? ⟨Bn + 1 + 1, 2, none⟩ = some (.int .i64 (x : Int)) := ⟨HX.out.at_.n0, HX.out.at_.f0, HX.out.at_.f1, HX.out.at_.f2⟩
        clear hkk
        go_wp2_with fail
        refine start_ (n := 6) (S := (fun w' => w'.cell? ⟨Bn, 0, none⟩ = some (.int .i64 (n : Int)) ∧ w'.cell? ⟨Bn + 1 + 1, 0, none⟩ = some (.int .i64 (n : Int)) ∧ w'.cell? ⟨Bn + 1 + 1, 1, none⟩ = some (.int .i64 (Q : Int)) ∧ w'.cell? ⟨Bn + 1 + 1, 2, none⟩ = some (.int .i64 (x : Int)))) (ds := []) #[false, false, false, false, false, false] (by kernel_rfl) rfl rfl hS0 (fun _ => ?_)
        refine pure_ (i := 1) (N := some 35) (v := ?_) (a' := ?_) #[false, true, false, false, false, false] rfl rfl (by kernel_rfl) (fun _ _ _ h => h) (Or.inl ⟨by rfl, ?_⟩) ?_ ?_
        rotate_left
        · intro w'
          go_simp
          with_reducible rfl
        rotate_left
        · simp only [Act.put, List.setIfInBounds_toArray, List.set_cons_zero, List.set_cons_succ, i64_w, i32_w]
          rfl
        refine take_ (i := 0) (N := some 34) (v := ?_) (a' := ?_) #[true, true, false, false, false, false] rfl rfl (by kernel_rfl) (fun _ _ _ h => h) (Or.inl ⟨by rfl, ?_⟩) hS0 ?_ ?_
        rotate_left
        · rintro w' ⟨k0', k1', k2', k3'⟩
          go_simp
          with_reducible rfl
        rotate_left
        · simp only [Act.put, List.setIfInBounds_toArray, List.set_cons_zero, List.set_cons_succ, i64_w, i32_w]
          rfl
        refine take_ (i := 2) (N := some 36) (v := ?_) (a' := ?_) #[true, true, true, false, false, false] rfl rfl (by kernel_rfl) (fun _ _ _ h => h) (Or.inl ⟨by rfl, ?_⟩) hS0 ?_ ?_
        rotate_left
        · rintro w' ⟨k0', k1', k2', k3'⟩
          go_simp
          with_reducible rfl
        rotate_left
        · simp only [Act.put, List.setIfInBounds_toArray, List.set_cons_zero, List.set_cons_succ, i64_w, i32_w]
          rfl
        refine take_ (i := 4) (N := some 38) (v := ?_) (a' := ?_) #[true, true, true, false, true, false] rfl rfl (by kernel_rfl) (fun _ _ _ h => h) (Or.inl ⟨by rfl, ?_⟩) hS0 ?_ ?_
        rotate_left
        · rintro w' ⟨k0', k1', k2', k3'⟩
          go_simp
          with_reducible rfl
        rotate_left
        · simp only [Act.put, List.setIfInBounds_toArray, List.set_cons_zero, List.set_cons_succ, i64_w, i32_w]
          rfl
        refine one_ (i := 3) (N := some 37) #[true, true, true, true, true, false] rfl rfl (by kernel_rfl) (by decide) (fun K hK => ?_)
        refine goes_ Tryd.func107 (by kernel_rfl) rfl #[.agg #[.int .i64 (n : Int), .int .i64 (Q : Int), .int .i64 (x : Int)], .int .i64 (x : Int)] (by rfl) rfl rfl (by simp only [List.map_toArray, List.map_cons, List.map_nil]; rfl) ?_
        refine (HO.out _).mono ?_
        rintro e w6 ⟨rfl, hb6⟩
        refine ⟨_, rfl, ?_⟩
        have HX6 := Aside0.mk (HX.out.to (below_step (below_drew (Below.refl _ _)) hb6))
        clear hb6
        refine hK.out _ _ ⟨HX6.out.at_.n0, HX6.out.at_.f0, HX6.out.at_.f1, HX6.out.at_.f2⟩ (fun _ => ?_)
        clear hK K
        refine norm_ (a' := ?_) ?_ ?_
        rotate_left
        · show Act.put _ (some 37) _ = _
          simp only [Act.put, List.setIfInBounds_toArray, List.set_cons_zero, List.set_cons_succ, i64_w, i32_w]
          rfl
        refine pure_ (i := 5) (N := some 39) (v := ?_) (a' := ?_) #[true, true, true, true, true, true] rfl rfl (by kernel_rfl) (fun _ _ _ h => h) (Or.inl ⟨by rfl, ?_⟩) ?_ ?_
        rotate_left
        · intro w'
          go_simp
          with_reducible rfl
        rotate_left
        · simp only [Act.put, List.setIfInBounds_toArray, List.set_cons_zero, List.set_cons_succ, i64_w, i32_w]
          rfl
        refine done_ (by kernel_rfl) ?_
        have HXX := Aside0.mk (show x ≤ Wf ∧ Wf < 97 from ⟨hxW, by have := HWB.out; omega⟩)
        by_cases hlt : x < Wf
        · have hne : (kk != (n : Int)) = true := bne_iff_ne.2 (hk1 hlt)
          have hne2 : ¬ kk = (n : Int) := hk1 hlt
          have f2 := HX6.out.at_.f2
          have fz := (HX6.out.fr 2).2
          have hwr : IntKind.i64.wrap ((x : Int) + 1) = ((x + 1 : Nat) : Int) := by rw [i64_id (by have := HXX.out; omega) (by have := HXX.out; omega)]; omega
          clear hk1 hk2
          go_wp2_with fail
          go_roundg (202 - (x + 1))
          case measure => have := HXX.out; omega
          case rel =>
            have h := HX6.out.setf (x + 1)
            rw [show ((x + 1 : Nat) : Int) = (x : Int) + 1 by omega] at h
            have := HXX.out
            exact ⟨x + 1, by omega, by omega, by omega, ⟨h⟩⟩
        · have hxe : x = Wf := by omega
          have heq : kk = (n : Int) := hk2 hxe
          subst heq
          have hne : ((n : Int) != (n : Int)) = false := bne_self_eq_false _
          clear hk1 hk2 hS0
          go_wp2_with fail
          subst hxe
          have hS8 : w6.drew.cell? ⟨Bn, 0, none⟩ = some (.int .i64 (n : Int)) ∧ w6.drew.cell? ⟨Bn + 1 + 1, 0, none⟩ = some (.int .i64 (n : Int)) ∧ w6.drew.cell? ⟨Bn + 1 + 1, 1, none⟩ = some (.int .i64 (Q : Int)) ∧ w6.drew.cell? ⟨Bn + 1 + 1, 2, none⟩ = some (.int .i64 (x : Int)) := ⟨HX6.out.at_.n0, HX6.out.at_.f0, HX6.out.at_.f1, HX6.out.at_.f2⟩
          have HCF := Aside0.mk (HCC.out Bn (Bn + 1 + 1) w6.drew (by rw [HQQ.out, HWW.out]; exact (HX6.out.to (below_drew (Below.refl _ _))).at_) (HX6.out.to (below_drew (Below.refl _ _))).bl)
          refine start_ (n := 7) (S := (fun w' => w'.cell? ⟨Bn, 0, none⟩ = some (.int .i64 (n : Int)) ∧ w'.cell? ⟨Bn + 1 + 1, 0, none⟩ = some (.int .i64 (n : Int)) ∧ w'.cell? ⟨Bn + 1 + 1, 1, none⟩ = some (.int .i64 (Q : Int)) ∧ w'.cell? ⟨Bn + 1 + 1, 2, none⟩ = some (.int .i64 (x : Int)))) (ds := [5]) #[false, false, false, false, false, false, false] (by kernel_rfl) rfl rfl hS8 (fun _ => ?_)
          refine pure_ (i := 1) (N := some 45) (v := ?_) (a' := ?_) #[false, true, false, false, false, false, false] rfl rfl (by kernel_rfl) (fun _ _ _ h => h) (Or.inl ⟨by rfl, ?_⟩) ?_ ?_
          rotate_left
          · intro w'
            go_simp
            with_reducible rfl
          rotate_left
          · simp only [Act.put, List.setIfInBounds_toArray, List.set_cons_zero, List.set_cons_succ, i64_w, i32_w]
            rfl
          refine pure_ (i := 2) (N := some 46) (v := ?_) (a' := ?_) #[false, true, true, false, false, false, false] rfl rfl (by kernel_rfl) (fun _ _ _ h => h) (Or.inl ⟨by rfl, ?_⟩) ?_ ?_
          rotate_left
          · intro w'
            go_simp
            with_reducible rfl
          rotate_left
          · simp only [Act.put, List.setIfInBounds_toArray, List.set_cons_zero, List.set_cons_succ, i64_w, i32_w]
            rfl
          refine take_ (i := 0) (N := some 44) (v := ?_) (a' := ?_) #[true, true, true, false, false, false, false] rfl rfl (by kernel_rfl) (fun _ _ _ h => h) (Or.inl ⟨by rfl, ?_⟩) hS8 ?_ ?_
          rotate_left
          · rintro w' ⟨k0', k1', k2', k3'⟩
            go_simp
            with_reducible rfl
          rotate_left
          · simp only [Act.put, List.setIfInBounds_toArray, List.set_cons_zero, List.set_cons_succ, i64_w, i32_w]
            rfl
          refine one_ (i := 3) (N := some 47) #[true, true, true, true, false, false, false] rfl rfl (by kernel_rfl) (by decide) (fun K hK => ?_)
          refine goes_ Tryd.func108 (by kernel_rfl) rfl #[v, .func (.func 109) #[] #[.pointer (some ⟨Bn, 0, none⟩), .pointer (some ⟨Bn + 1 + 1, 0, none⟩)]] (by rfl) rfl rfl (by simp only [List.map_toArray, List.map_cons, List.map_nil]; rfl) ?_
          refine HCF.out.mono ?_
          rintro e w7 ⟨rfl, hd7⟩
          refine ⟨_, rfl, ?_⟩
          have HX7 := Aside0.mk ((HX6.out.to (below_drew (Below.refl _ _))).to hd7.below)
          clear hd7
          refine hK.out _ _ ⟨HX7.out.at_.n0, HX7.out.at_.f0, HX7.out.at_.f1, HX7.out.at_.f2⟩ (fun _ => ?_)
          clear hK K
          refine norm_ (a' := ?_) ?_ ?_
          rotate_left
          · show Act.put _ (some 47) _ = _
            simp only [Act.put, List.setIfInBounds_toArray, List.set_cons_zero, List.set_cons_succ, i64_w, i32_w]
            rfl
          refine pure_ (i := 4) (N := some 48) (v := ?_) (a' := ?_) #[true, true, true, true, true, false, false] rfl rfl (by kernel_rfl) (fun _ _ _ h => h) (Or.inl ⟨by rfl, ?_⟩) ?_ ?_
          rotate_left
          · intro w'
            go_simp
            with_reducible rfl
          rotate_left
          · simp only [Act.put, List.setIfInBounds_toArray, List.set_cons_zero, List.set_cons_succ, i64_w, i32_w]
            rfl
          have z0 := HX7.out.z 0 (by omega)
          have z1 := HX7.out.z 1 (by omega)
          have z2 := HX7.out.z 2 (by omega)
          have y0 := (HX7.out.fr 0).1
          have y1 := (HX7.out.fr 1).1
          have y2 := (HX7.out.fr 2).1
          refine last_ (i := 5) (N := none) #[true, true, true, true, true, true, false] rfl rfl (by kernel_rfl) (by decide) (fun K hK => ?_)
          refine skip_ (w1 := ((w7.setCell ⟨Bn + 1, 0, none⟩ (.int .i64 (n : Int))).setCell ⟨Bn + 1, 1, none⟩ (.int .i64 (Q : Int))).setCell ⟨Bn + 1, 2, none⟩ (.int .i64 (x : Int))) (by rfl) rfl ?hr5 ?_
          case hr5 => first | (go_simp; done) | (go_simp; rfl)
          refine hK.out _ _ ?_
          clear hK K z0 z1 z2 y0 y1 y2
          refine pure_ (i := 6) (N := some 5) (v := ?_) (a' := ?_) #[true, true, true, true, true, true, true] rfl rfl (by kernel_rfl) (fun _ _ _ h => h) (Or.inl ⟨by rfl, ?_⟩) ?_ ?_
          rotate_left
          · intro w'
            go_simp
            with_reducible rfl
          rotate_left
          · simp only [Act.put, List.setIfInBounds_toArray, List.set_cons_zero, List.set_cons_succ, i64_w, i32_w]
            rfl
          refine done_ (by kernel_rfl) ?_
          obtain ⟨d0, d1_, d2_⟩ := fld_set (.int .i64 (n : Int)) (.int .i64 (Q : Int)) (.int .i64 (x : Int)) (HX7.out.z 0 (by omega)) (HX7.out.z 1 (by omega)) (HX7.out.z 2 (by omega))
          have hge : w.heap.size ≤ Bn + 1 := by have := HX7.out.ge; omega
          have HFIN := Aside0.mk (show Below w.heap.size w (((w7.setCell ⟨Bn + 1, 0, none⟩ (.int .i64 (n : Int))).setCell ⟨Bn + 1, 1, none⟩ (.int .i64 (Q : Int))).setCell ⟨Bn + 1, 2, none⟩ (.int .i64 (x : Int))) from below_set (below_set (below_set HX7.out.bl hge) hge) hge)
          go_wp2_with fail
          exact bodyPost_ret (results_fld2 rfl _ _ (Bn + 1) (n : Int) (Q : Int) (x : Int) (.bool true) rfl rfl d0 d1_ d2_) rfl ⟨by rw [HQQ.out, HWW.out], HFIN.out⟩

end Go.Proofs.YtfpnojcbhbkfaaaDoor.P
