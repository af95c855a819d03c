/- A part of a proof that a law's Go function returns true for every input, laid by this session's program mp.py (which drives the kit's print). Conditions: as each theorem states them. -/
import Derived.StillTailTactics
import Derived.Laws.EntriesVeiled
import Derived.Deep.RegionHeld3
import Derived.RegionTactic
import Derived.Deep.RegionWith
import Derived.Test.YtdnjbjcfbdclfaaCVoicesQuiet1
import Derived.Test.YtdnjbjcfbdclfaaCVoicesQuiet2
import Derived.Test.YtdnjbjcfbdclfaaCVoicesQuiet3
namespace Go.Proofs.Ytdnjbjcfbdclfaa.P
open Go.RowKit Go.Proofs.YtdnjbjcfbdclfaaW.PrintWords Go.Proofs.YtdnjbjcfbdclfaaW.PrintLast Go.Proofs.YtdnjbjcfbdclfaaW.PrintMore
attribute [local go_sem] max2_int min2_int max_two min_two max_three min_three max_four min_four   -- for this text's walks alone
set_option linter.unusedVariables false
set_option linter.unusedSimpArgs false

/-! what Calm's closure answers -/
set_option maxHeartbeats 8000000 in
set_option maxRecDepth 100000 in
theorem calm1_calls (n : Int) (Aa : Option Addr) (ca : Nat) (a : List Int) (Ab : Option Addr) (cb : Nat) (b : List Int) (cost pv : Int) (rx : Bool) (p0 p1 p2 p3 : Addr) (A : Option Addr) (c : Nat) (x : List Int) (k1 k2 : Nat) (W : World) (c0 : W.cell? p0 = some (.int .i64 n)) (c1 : W.cell? p1 = some (.slice Aa a.length ca)) (c2 : W.cell? p2 = some (.slice Ab b.length cb)) (c3 : W.cell? p3 = some (.int .i64 cost))
    (hra : Kd.C (Kd.int .i64) W Aa a.length a) (hca : a.length ≤ ca) (hrb : Kd.C (Kd.int .i64) W Ab b.length b) (hcb : b.length ≤ cb) (hrx : Kd.C (Kd.int .i64) W A x.length x) (hcx : x.length ≤ c) (h1 : voices_circle_price.f k1 n a b x = some pv) (h2 : pv = cost → voices_circle_cross.f k2 n a b x = some rx) :
    Calls Try.prog 42 (#[.slice A x.length c] ++ #[.pointer (some p0), .pointer (some p1), .pointer (some p2), .pointer (some p3)]) W fun e W' => e = .returned (.bool (decide (pv = cost) && !rx)) ∧ Below W.heap.size W W' := by
  have hk : ∀ W1, Below W.heap.size W W1 → W1.cell? p0 = some (.int .i64 n) ∧ W1.cell? p1 = some (.slice Aa a.length ca) ∧ W1.cell? p2 = some (.slice Ab b.length cb) ∧ W1.cell? p3 = some (.int .i64 cost) := fun W1 hb => ⟨(hb.cell (World.block_lt_of_cell? W _ c0)).trans c0, (hb.cell (World.block_lt_of_cell? W _ c1)).trans c1, (hb.cell (World.block_lt_of_cell? W _ c2)).trans c2, (hb.cell (World.block_lt_of_cell? W _ c3)).trans c3⟩
  have HP := Aside0.mk (fun (W1 : World) (hb : Below W.heap.size W W1) => (voices_circle_price.calls k1 n Aa ca a Ab cb b A c x pv W1 (Kd.C_below hra hb) hca (Kd.C_below hrb hb) hcb (Kd.C_below hrx hb) hcx h1).mono (fun e W2 (h : e = .returned (.int .i64 pv) ∧ Below W1.heap.size W1 W2) => show e = .returned (.int .i64 pv) ∧ (W2.cell? p0 = some (.int .i64 n) ∧ W2.cell? p1 = some (.slice Aa a.length ca) ∧ W2.cell? p2 = some (.slice Ab b.length cb) ∧ W2.cell? p3 = some (.int .i64 cost)) ∧ Below W.heap.size W W2 from ⟨h.1, hk W2 (hb.trans (h.2.mono hb.size)), hb.trans (h.2.mono hb.size)⟩))
  have HX := Aside0.mk (fun (he : pv = cost) (W1 : World) (hb : Below W.heap.size W W1) => (voices_circle_cross.calls k2 n Aa ca a Ab cb b A c x rx W1 (Kd.C_below hra hb) hca (Kd.C_below hrb hb) hcb (Kd.C_below hrx hb) hcx (h2 he)).mono (fun e W2 (h : e = .returned (.bool rx) ∧ Below W1.heap.size W1 W2) => show e = .returned (.bool rx) ∧ (W2.cell? p0 = some (.int .i64 n) ∧ W2.cell? p1 = some (.slice Aa a.length ca) ∧ W2.cell? p2 = some (.slice Ab b.length cb) ∧ W2.cell? p3 = some (.int .i64 cost)) ∧ Below W.heap.size W W2 from ⟨h.1, hk W2 (hb.trans (h.2.mono hb.size)), hb.trans (h.2.mono hb.size)⟩))
  have hb0 : Below W.heap.size W W.drew := below_drew (Below.refl _ _)
  clear hra hca hrb hcb hrx hcx h1 h2 hk
  generalize x.length = lx at *
  generalize a.length = la at *
  generalize b.length = lb at *
  by_cases he : pv = cost
  · have HX := Aside0.mk (HX.out he)
    have q1 : decide (pv = cost) = true := decide_eq_true he
    have q2 : (pv == cost) = true := beq_iff_eq.2 he
    have HE := Aside0.mk he
    clear he
    go_enter Try.func42, Try.ntmps42
    go_wp2_with fail
    go_region_held3 (fun w' => w'.cell? p0 = some (.int .i64 n) ∧ w'.cell? p1 = some (.slice Aa la ca) ∧ w'.cell? p2 = some (.slice Ab lb cb) ∧ w'.cell? p3 = some (.int .i64 cost) ∧ Below W.heap.size W w') (go_keep)
      (first
        | (go_at_call 40; refine (HP.out _ ?_).mono ?_; (simp [*]); rintro e w' ⟨rfl, ⟨k0, k1, k2, k3⟩, kb⟩)
        | (go_at_call 43; refine (HX.out _ ?_).mono ?_; (simp [*]); rintro e w' ⟨rfl, ⟨k0, k1, k2, k3⟩, kb⟩))
    all_goals go_wp2
    all_goals go_ret
    all_goals exact ⟨by simp [HE.out], by assumption⟩
  · have q1 : decide (pv = cost) = false := decide_eq_false he
    have q2 : (pv == cost) = false := beq_eq_false_iff_ne.2 he
    have HE := Aside0.mk he
    clear he HX
    go_enter Try.func42, Try.ntmps42
    go_wp2_with fail
    refine start_ (n := 16) (S := fun w' => w'.cell? p0 = some (.int .i64 n) ∧ w'.cell? p1 = some (.slice Aa la ca) ∧ w'.cell? p2 = some (.slice Ab lb cb) ∧ w'.cell? p3 = some (.int .i64 cost) ∧ Below W.heap.size W w') (ds := []) #[false, false, false, false, false, false, false, false, false, false, false, false, false, false, false, false] (by kernel_rfl) rfl rfl ⟨c0, c1, c2, c3, hb0⟩ (fun hHeld => ?_)
    refine take_ (i := 0) (N := some 7) (v := ?_) (a' := ?_) #[true, false, false, false, false, false, false, false, false, false, false, false, false, false, false, false] rfl rfl (by kernel_rfl) (fun _ _ _ h => h) (Or.inl ⟨by rfl, ?_⟩) hHeld ?_ ?_
    rotate_left
    · rintro w' ⟨s0, s1, s2, s3, s4⟩
      go_simp
      with_reducible rfl
    rotate_left
    · simp only [Act.put, List.setIfInBounds_toArray, List.set_cons_zero, List.set_cons_succ, i64_w, i32_w]
      rfl
    refine take_ (i := 1) (N := some 8) (v := ?_) (a' := ?_) #[true, true, false, false, false, false, false, false, false, false, false, false, false, false, false, false] rfl rfl (by kernel_rfl) (fun _ _ _ h => h) (Or.inl ⟨by rfl, ?_⟩) hHeld ?_ ?_
    rotate_left
    · rintro w' ⟨s0, s1, s2, s3, s4⟩
      go_simp
      with_reducible rfl
    rotate_left
    · simp only [Act.put, List.setIfInBounds_toArray, List.set_cons_zero, List.set_cons_succ, i64_w, i32_w]
      rfl
    refine take_ (i := 2) (N := some 9) (v := ?_) (a' := ?_) #[true, true, true, false, false, false, false, false, false, false, false, false, false, false, false, false] rfl rfl (by kernel_rfl) (fun _ _ _ h => h) (Or.inl ⟨by rfl, ?_⟩) hHeld ?_ ?_
    rotate_left
    · rintro w' ⟨s0, s1, s2, s3, s4⟩
      go_simp
      with_reducible rfl
    rotate_left
    · simp only [Act.put, List.setIfInBounds_toArray, List.set_cons_zero, List.set_cons_succ, i64_w, i32_w]
      rfl
    refine take_ (i := 5) (N := some 12) (v := ?_) (a' := ?_) #[true, true, true, false, false, true, false, false, false, false, false, false, false, false, false, false] rfl rfl (by kernel_rfl) (fun _ _ _ h => h) (Or.inl ⟨by rfl, ?_⟩) hHeld ?_ ?_
    rotate_left
    · rintro w' ⟨s0, s1, s2, s3, s4⟩
      go_simp
      with_reducible rfl
    rotate_left
    · simp only [Act.put, List.setIfInBounds_toArray, List.set_cons_zero, List.set_cons_succ, i64_w, i32_w]
      rfl
    refine pure_ (i := 3) (N := some 10) (v := ?_) (a' := ?_) #[true, true, true, true, false, true, false, false, false, false, false, false, false, false, false, false] rfl rfl (by kernel_rfl) (fun _ _ _ h => h) (Or.inl ⟨by rfl, ?_⟩) ?_ ?_
    rotate_left
    · intro w'
      go_simp
      with_reducible rfl
    rotate_left
    · simp only [Act.put, List.setIfInBounds_toArray, List.set_cons_zero, List.set_cons_succ, i64_w, i32_w]
      rfl
    refine one_ (i := 4) (N := some 11) #[true, true, true, true, true, true, false, false, false, false, false, false, false, false, false, false] rfl rfl (by kernel_rfl) (by decide) (fun K hK => ?_)
    refine goes_ Try.func40 (by kernel_rfl) rfl #[.int .i64 n, .slice Aa la ca, .slice Ab lb cb, .slice A lx c] (by rfl) rfl rfl (by (try simp only [List.map_toArray, List.map_cons, List.map_nil]); first | done | rfl) ?_
    refine (HP.out _ hHeld.2.2.2.2).mono ?_
    rintro e w13 ⟨rfl, ⟨k0, k1, k2, k3⟩, kb⟩
    refine ⟨_, rfl, ?_⟩
    refine hK.out _ _ ⟨k0, k1, k2, k3, kb⟩ (fun hHeld => ?_)
    clear hK K
    refine norm_ (a' := ?_) ?_ ?_
    rotate_left
    · show Act.put _ (some 11) _ = _
      simp only [Act.put, List.setIfInBounds_toArray, List.set_cons_zero, List.set_cons_succ, i64_w, i32_w]
      rfl
    refine pure_ (i := 6) (N := some 13) (v := ?_) (a' := ?_) #[true, true, true, true, true, true, true, false, false, false, false, false, false, false, false, false] rfl rfl (by kernel_rfl) (fun _ _ _ h => h) (Or.inl ⟨by rfl, ?_⟩) ?_ ?_
    rotate_left
    · intro w'
      go_simp
      with_reducible rfl
    rotate_left
    · simp only [Act.put, List.setIfInBounds_toArray, List.set_cons_zero, List.set_cons_succ, i64_w, i32_w]
      rfl
    refine pure_ (i := 7) (N := some 14) (v := ?_) (a' := ?_) #[true, true, true, true, true, true, true, true, false, false, false, false, false, false, false, false] rfl rfl (by kernel_rfl) (fun _ _ _ h => h) (Or.inl ⟨by rfl, ?_⟩) ?_ ?_
    rotate_left
    · intro w'
      go_simp
      with_reducible rfl
    rotate_left
    · simp only [Act.put, List.setIfInBounds_toArray, List.set_cons_zero, List.set_cons_succ, i64_w, i32_w]
      rfl
    refine pure_ (i := 8) (N := some 15) (v := undef) (a' := ?_) #[true, true, true, true, true, true, true, true, true, false, false, false, false, false, false, false] rfl rfl (by kernel_rfl) (fun _ _ _ h => h) (Or.inr ⟨by rfl, rfl⟩) ?_ ?_
    rotate_left
    · simp only [Act.put, List.setIfInBounds_toArray, List.set_cons_zero, List.set_cons_succ, i64_w, i32_w]
      rfl
    refine pure_ (i := 9) (N := some 16) (v := undef) (a' := ?_) #[true, true, true, true, true, true, true, true, true, true, false, false, false, false, false, false] rfl rfl (by kernel_rfl) (fun _ _ _ h => h) (Or.inr ⟨by rfl, rfl⟩) ?_ ?_
    rotate_left
    · simp only [Act.put, List.setIfInBounds_toArray, List.set_cons_zero, List.set_cons_succ, i64_w, i32_w]
      rfl
    refine pure_ (i := 10) (N := some 17) (v := undef) (a' := ?_) #[true, true, true, true, true, true, true, true, true, true, true, false, false, false, false, false] rfl rfl (by kernel_rfl) (fun _ _ _ h => h) (Or.inr ⟨by rfl, rfl⟩) ?_ ?_
    rotate_left
    · simp only [Act.put, List.setIfInBounds_toArray, List.set_cons_zero, List.set_cons_succ, i64_w, i32_w]
      rfl
    refine pure_ (i := 11) (N := some 18) (v := undef) (a' := ?_) #[true, true, true, true, true, true, true, true, true, true, true, true, false, false, false, false] rfl rfl (by kernel_rfl) (fun _ _ _ h => h) (Or.inr ⟨by rfl, rfl⟩) ?_ ?_
    rotate_left
    · simp only [Act.put, List.setIfInBounds_toArray, List.set_cons_zero, List.set_cons_succ, i64_w, i32_w]
      rfl
    refine pure_ (i := 12) (N := some 19) (v := undef) (a' := ?_) #[true, true, true, true, true, true, true, true, true, true, true, true, true, false, false, false] rfl rfl (by kernel_rfl) (fun _ _ _ h => h) (Or.inr ⟨by rfl, rfl⟩) ?_ ?_
    rotate_left
    · simp only [Act.put, List.setIfInBounds_toArray, List.set_cons_zero, List.set_cons_succ, i64_w, i32_w]
      rfl
    refine pure_ (i := 13) (N := some 20) (v := undef) (a' := ?_) #[true, true, true, true, true, true, true, true, true, true, true, true, true, true, false, false] rfl rfl (by kernel_rfl) (fun _ _ _ h => h) (Or.inr ⟨by rfl, rfl⟩) ?_ ?_
    rotate_left
    · simp only [Act.put, List.setIfInBounds_toArray, List.set_cons_zero, List.set_cons_succ, i64_w, i32_w]
      rfl
    refine pure_ (i := 14) (N := some 21) (v := ?_) (a' := ?_) #[true, true, true, true, true, true, true, true, true, true, true, true, true, true, true, false] rfl rfl (by kernel_rfl) (fun _ _ _ h => h) (Or.inl ⟨by rfl, ?_⟩) ?_ ?_
    rotate_left
    · intro w'
      go_simp
      with_reducible rfl
    rotate_left
    · simp only [Act.put, List.setIfInBounds_toArray, List.set_cons_zero, List.set_cons_succ, i64_w, i32_w]
      rfl
    refine pure_ (i := 15) (N := some 6) (v := ?_) (a' := ?_) #[true, true, true, true, true, true, true, true, true, true, true, true, true, true, true, true] rfl rfl (by kernel_rfl) (fun _ _ _ h => h) (Or.inl ⟨by rfl, ?_⟩) ?_ ?_
    rotate_left
    · intro w'
      go_simp
      with_reducible rfl
    rotate_left
    · simp only [Act.put, List.setIfInBounds_toArray, List.set_cons_zero, List.set_cons_succ, i64_w, i32_w]
      rfl
    refine done_ (by kernel_rfl) ?_
    all_goals go_wp2
    all_goals go_ret
    all_goals exact ⟨by simp [HE.out], by assumption⟩

end Go.Proofs.Ytdnjbjcfbdclfaa.P
namespace Go.Proofs.Ytdnjbjcfbdclfaa.P
open Go.RowKit Go.Proofs.YtdnjbjcfbdclfaaW.PrintWords Go.Proofs.YtdnjbjcfbdclfaaW.PrintLast Go.Proofs.YtdnjbjcfbdclfaaW.PrintMore
attribute [local go_sem] max2_int min2_int max_two min_two max_three min_three max_four min_four   -- for this text's walks alone
set_option linter.unusedVariables false
set_option linter.unusedSimpArgs false

/-! slices.Min and Max at ints, where there is an element -/
def minL : List Int → Int
  | [] => 0
  | x :: l => l.foldl min x
def maxL : List Int → Int
  | [] => 0
  | x :: l => l.foldl max x
def slices_Min_int_int.f (l0 : List Int) : Option Int := if l0.length < 1 then none else some (minL l0)
def slices_Max_int_int.f (l0 : List Int) : Option Int := if l0.length < 1 then none else some (maxL l0)
theorem minL_take {l : List Int} {k : Nat} (h : k < l.length) (h1 : 1 ≤ k) : min (minL (l.take k)) l[k] = minL (l.take (k + 1)) := by
  rw [List.take_succ_eq_append_getElem h]
  cases l with
  | nil => simp at h
  | cons x l =>
    obtain ⟨j, rfl⟩ : ∃ j, k = j + 1 := ⟨k - 1, by omega⟩
    simp only [List.take_succ_cons, List.cons_append, minL, List.foldl_append, List.foldl_cons, List.foldl_nil]
theorem maxL_take {l : List Int} {k : Nat} (h : k < l.length) (h1 : 1 ≤ k) : max (maxL (l.take k)) l[k] = maxL (l.take (k + 1)) := by
  rw [List.take_succ_eq_append_getElem h]
  cases l with
  | nil => simp at h
  | cons x l =>
    obtain ⟨j, rfl⟩ : ∃ j, k = j + 1 := ⟨k - 1, by omega⟩
    simp only [List.take_succ_cons, List.cons_append, maxL, List.foldl_append, List.foldl_cons, List.foldl_nil]
set_option maxHeartbeats 2000000 in
set_option maxRecDepth 100000 in
theorem slices_Min_int_int.calls (A0 : Option Addr) (c0 : Nat) (l0 : List Int) (r : Int) (w : World) (hr0 : Kd.C (Kd.int .i64) w A0 l0.length l0) (_ : l0.length ≤ c0) (h : slices_Min_int_int.f l0 = some r) :
    Calls Try.prog 50 #[.slice A0 l0.length c0] w fun e w' => e = .returned (.int .i64 r) ∧ Drawn0 w w' := by
  unfold slices_Min_int_int.f at h
  by_cases hc : l0.length < 1
  · rw [if_pos hc] at h; cases h
  · rw [if_neg hc] at h
    have hres := Option.some.inj h
    have hm : l0.length ≤ 9223372036854775807 := Kd.C_max hr0
    have HR := Aside0.mk hr0
    have HH := Aside0.mk hres
    have q1 : decide (l0.length < 1) = false := decide_eq_false hc
    have q2 : decide ((l0.length : Int) < 1) = false := decide_eq_false (by omega)
    have hpos : 0 < l0.length := by omega
    have hposz : (0 : Int) < (l0.length : Int) := by omega
    obtain ⟨ad, ead, hcell0⟩ := Kd.at_int hr0 0 (by omega) hposz
    have HE := Aside0.mk (show ∃ x l, l0 = x :: l ∧ rd l0 0 = x from by
      cases l0 with
      | nil => simp at hpos
      | cons x l => exact ⟨x, l, rfl, rfl⟩)
    obtain ⟨x, hx⟩ : ∃ x, rd l0 0 = x := ⟨_, rfl⟩
    rw [hx] at hcell0 HE
    have hcell1 : w.cell? ad = some (.int .i64 x) := by rw [← hcell0]; congr 1
    cases ead
    clear hr0 h hres hc hx hcell0
    go_enter Try.func50, Try.ntmps50
    go_wp2
    go_loopg [3, 4] l0.length (fun gg s3 s4 wr => ∃ (kk q : Nat) (v : Int), s4 = .int .i64 kk ∧ s3 = .int .i64 v ∧ wr = w.drewN q ∧ Aside0 (kk + gg = l0.length + 1) ∧ Aside0 (1 ≤ kk) ∧ Aside0 (v = minL (l0.take kk)))
    case atStart => exact ⟨1, _, x, rfl, rfl, by first | rfl | exact (World.drewN_zero _).symm | (apply Eq.symm; apply World.drewN_zero), ⟨by omega⟩, ⟨by omega⟩, ⟨by obtain ⟨y, l, h1, h2⟩ := HE.out; subst h1; subst h2; rfl⟩⟩
    case round =>
      obtain ⟨kk, q, v, rfl, rfl, rfl, HK, H1, HV⟩ := hrel
      by_cases hlt : kk < l0.length
      · have hltz : (kk : Int) < (l0.length : Int) := by omega
        obtain ⟨ad2, ead, hcellk⟩ := Kd.at_int HR.out (kk : Int) (by omega) hltz
        rw [rd_get hlt] at hcellk
        rw [Int.toNat_natCast] at hcellk
        cases ead
        generalize hy : l0[kk] = y at hcellk
        have Hy := Aside0.mk hy
        clear hy hcell1
        go_wp2
        all_goals
          go_roundg (gk - 1)
          case measure => have := HK.out; omega
          case rel =>
            refine ⟨kk + 1, q, min v y, by go_num, by first | rfl | (congr 1; omega), by first | rfl | simp, ⟨by have := HK.out; omega⟩, ⟨by omega⟩, ⟨?_⟩⟩
            rw [HV.out, ← Hy.out]
            exact minL_take hlt H1.out
      · have hltz : ¬ (kk : Int) < (l0.length : Int) := by omega
        clear hcell1
        go_wp2
        go_ret
        refine ⟨?_, ⟨_, rfl⟩⟩
        have h1 := HV.out
        rw [List.take_of_length_le (by omega), HH.out] at h1
        rw [h1]; first | rfl | simp
set_option maxHeartbeats 2000000 in
set_option maxRecDepth 100000 in
theorem slices_Max_int_int.calls (A0 : Option Addr) (c0 : Nat) (l0 : List Int) (r : Int) (w : World) (hr0 : Kd.C (Kd.int .i64) w A0 l0.length l0) (_ : l0.length ≤ c0) (h : slices_Max_int_int.f l0 = some r) :
    Calls Try.prog 51 #[.slice A0 l0.length c0] w fun e w' => e = .returned (.int .i64 r) ∧ Drawn0 w w' := by
  unfold slices_Max_int_int.f at h
  by_cases hc : l0.length < 1
  · rw [if_pos hc] at h; cases h
  · rw [if_neg hc] at h
    have hres := Option.some.inj h
    have hm : l0.length ≤ 9223372036854775807 := Kd.C_max hr0
    have HR := Aside0.mk hr0
    have HH := Aside0.mk hres
    have q1 : decide (l0.length < 1) = false := decide_eq_false hc
    have q2 : decide ((l0.length : Int) < 1) = false := decide_eq_false (by omega)
    have hpos : 0 < l0.length := by omega
    have hposz : (0 : Int) < (l0.length : Int) := by omega
    obtain ⟨ad, ead, hcell0⟩ := Kd.at_int hr0 0 (by omega) hposz
    have HE := Aside0.mk (show ∃ x l, l0 = x :: l ∧ rd l0 0 = x from by
      cases l0 with
      | nil => simp at hpos
      | cons x l => exact ⟨x, l, rfl, rfl⟩)
    obtain ⟨x, hx⟩ : ∃ x, rd l0 0 = x := ⟨_, rfl⟩
    rw [hx] at hcell0 HE
    have hcell1 : w.cell? ad = some (.int .i64 x) := by rw [← hcell0]; congr 1
    cases ead
    clear hr0 h hres hc hx hcell0
    go_enter Try.func51, Try.ntmps51
    go_wp2
    go_loopg [3, 4] l0.length (fun gg s3 s4 wr => ∃ (kk q : Nat) (v : Int), s4 = .int .i64 kk ∧ s3 = .int .i64 v ∧ wr = w.drewN q ∧ Aside0 (kk + gg = l0.length + 1) ∧ Aside0 (1 ≤ kk) ∧ Aside0 (v = maxL (l0.take kk)))
    case atStart => exact ⟨1, _, x, rfl, rfl, by first | rfl | exact (World.drewN_zero _).symm | (apply Eq.symm; apply World.drewN_zero), ⟨by omega⟩, ⟨by omega⟩, ⟨by obtain ⟨y, l, h1, h2⟩ := HE.out; subst h1; subst h2; rfl⟩⟩
    case round =>
      obtain ⟨kk, q, v, rfl, rfl, rfl, HK, H1, HV⟩ := hrel
      by_cases hlt : kk < l0.length
      · have hltz : (kk : Int) < (l0.length : Int) := by omega
        obtain ⟨ad2, ead, hcellk⟩ := Kd.at_int HR.out (kk : Int) (by omega) hltz
        rw [rd_get hlt] at hcellk
        rw [Int.toNat_natCast] at hcellk
        cases ead
        generalize hy : l0[kk] = y at hcellk
        have Hy := Aside0.mk hy
        clear hy hcell1
        go_wp2
        all_goals
          go_roundg (gk - 1)
          case measure => have := HK.out; omega
          case rel =>
            refine ⟨kk + 1, q, max v y, by go_num, by first | rfl | (congr 1; omega), by first | rfl | simp, ⟨by have := HK.out; omega⟩, ⟨by omega⟩, ⟨?_⟩⟩
            rw [HV.out, ← Hy.out]
            exact maxL_take hlt H1.out
      · have hltz : ¬ (kk : Int) < (l0.length : Int) := by omega
        clear hcell1
        go_wp2
        go_ret
        refine ⟨?_, ⟨_, rfl⟩⟩
        have h1 := HV.out
        rw [List.take_of_length_le (by omega), HH.out] at h1
        rw [h1]; first | rfl | simp

end Go.Proofs.Ytdnjbjcfbdclfaa.P
namespace Go.Proofs.Ytdnjbjcfbdclfaa.P
open Go.RowKit Go.Proofs.YtdnjbjcfbdclfaaW.PrintWords Go.Proofs.YtdnjbjcfbdclfaaW.PrintLast Go.Proofs.YtdnjbjcfbdclfaaW.PrintMore
attribute [local go_sem] max2_int min2_int max_two min_two max_three min_three max_four min_four   -- for this text's walks alone
set_option linter.unusedVariables false
set_option linter.unusedSimpArgs false

/-! ### voices_circle_valid: function 34 -/
mutual
def voices_circle_valid.j0 : Nat → Int → List (List Int) → Bool → Option (Bool)
  | 0, _, _, _ => none
  | k + 1, x0, x1, x12 => if x12 = true then (some false) else (voices_circle_valid.l0 k x0 x1 x1 (x1.length : Int) 0)
def voices_circle_valid.l0 : Nat → Int → List (List Int) → List (List Int) → Int → Int → Option (Bool)
  | 0, _, _, _, _, _ => none
  | k + 1, x0, x1, x13, x14, x15 => if x15 < x14 then (if 0 ≤ x15 then (if x15 < (x13.length : Int) then (if ((rd_L1 x13 x15).length : Int) < 1 then (some false) else (if ((rd_L1 x13 x15).length : Int) > 6 then (some false) else (if 0 < (x1.length : Int) then (if ((rd_L1 x13 x15).length : Int) = ((rd_L1 x1 0).length : Int) then ((slices_Min_int_int.f (rd_L1 x13 x15)).bind fun t1003 => (if t1003 < 0 then (some false) else ((slices_Max_int_int.f (rd_L1 x13 x15)).bind fun t1004 => (if t1004 ≥ x0 then (some false) else (voices_circle_valid.l0 k x0 x1 x13 x14 (wrap64 (x15 + 1))))))) else (some false)) else (none)))) else (none)) else (none)) else (some true)
end
def voices_circle_valid.f (k : Nat) (a0 : Int) (l1 : List (List Int)) : Option (Bool) := if a0 < 2 then (voices_circle_valid.j0 k a0 l1 true) else (voices_circle_valid.j0 k a0 l1 (decide (a0 > 16)))
theorem voices_circle_valid.mono_l : ∀ k, (∀ y0 y1 y2, LeO (voices_circle_valid.j0 k y0 y1 y2) (voices_circle_valid.j0 (k + 1) y0 y1 y2)) ∧ (∀ y0 y1 y2 y3 y4, LeO (voices_circle_valid.l0 k y0 y1 y2 y3 y4) (voices_circle_valid.l0 (k + 1) y0 y1 y2 y3 y4))
  | 0 => ⟨fun _ _ _ r h => by simp [voices_circle_valid.j0] at h, fun _ _ _ _ _ r h => by simp [voices_circle_valid.l0] at h⟩
  | k + 1 => by
    obtain ⟨ih0, ih1⟩ := voices_circle_valid.mono_l k
    refine ⟨?_, ?_⟩
    · intro y0 y1 y2
      unfold voices_circle_valid.j0
      repeat' first
      | (with_reducible exact ih0 _ _ _)
      | (with_reducible exact ih1 _ _ _ _ _)
      | (with_reducible exact LeO.refl _)
      | (with_reducible exact LeO.none _)
      | (with_reducible refine LeO.ite ?_ ?_)
      | (with_reducible refine LeO.bind ?_ (fun _ => ?_))
      | exact ih0 _ _ _
      | exact ih1 _ _ _ _ _
      | exact LeO.none _
      | refine LeO.ite ?_ ?_
      | refine LeO.bind ?_ (fun _ => ?_)
    · intro y0 y1 y2 y3 y4
      unfold voices_circle_valid.l0
      repeat' first
      | (with_reducible exact ih0 _ _ _)
      | (with_reducible exact ih1 _ _ _ _ _)
      | (with_reducible exact LeO.refl _)
      | (with_reducible exact LeO.none _)
      | (with_reducible refine LeO.ite ?_ ?_)
      | (with_reducible refine LeO.bind ?_ (fun _ => ?_))
      | exact ih0 _ _ _
      | exact ih1 _ _ _ _ _
      | exact LeO.none _
      | refine LeO.ite ?_ ?_
      | refine LeO.bind ?_ (fun _ => ?_)
theorem voices_circle_valid.mono : ∀ a0 a1 k, LeO (voices_circle_valid.f k a0 a1) (voices_circle_valid.f (k + 1) a0 a1) := by
  intro a0 a1 k
  obtain ⟨ih0, ih1⟩ := voices_circle_valid.mono_l k
  unfold voices_circle_valid.f
  repeat' first
      | (with_reducible exact ih0 _ _ _)
      | (with_reducible exact ih1 _ _ _ _ _)
      | (with_reducible exact LeO.refl _)
      | (with_reducible exact LeO.none _)
      | (with_reducible refine LeO.ite ?_ ?_)
      | (with_reducible refine LeO.bind ?_ (fun _ => ?_))
      | exact ih0 _ _ _
      | exact ih1 _ _ _ _ _
      | exact LeO.none _
      | refine LeO.ite ?_ ?_
      | refine LeO.bind ?_ (fun _ => ?_)
set_option maxHeartbeats 8000000 in
set_option maxRecDepth 100000 in
theorem voices_circle_valid.calls (k : Nat) (a0 : Int) (A1 : Option Addr) (c1 : Nat) (l1 : List (List Int)) (r : Bool) (w : World) (hr1 : Kd.C (Kd.slice 3 (Kd.int .i64)) w A1 l1.length l1) (hc1 : l1.length ≤ c1) (h : voices_circle_valid.f k a0 l1 = some r) :
    Calls Try.prog 34 #[.int .i64 a0, .slice A1 l1.length c1] w fun e w' => e = .returned (.bool r) ∧ Drawn0 w w' := by
  have HR1 := Aside0.mk hr1
  have HC1 := Aside0.mk hc1
  clear hr1 hc1
  have H : (if a0 < 2 then (voices_circle_valid.j0 k a0 l1 true) else (voices_circle_valid.j0 k a0 l1 (decide (a0 > 16)))) = some r := h
  clear h
  have HC3 := Aside0.mk H
  clear H
  go_enter Try.func34, Try.ntmps34
  go_upto_region 1 with (fail)
  go_cut [12] (fun v12 wc => ∃ (kq : Nat) (x12_2 : Bool), v12 = .bool x12_2 ∧ Aside0 (voices_circle_valid.j0 kq a0 l1 x12_2 = some r) ∧ Aside0 (kq ≤ k) ∧ Drawn0 w wc)
  case first =>
    have H := HC3.out
    clear HC3
    by_cases c4 : a0 < 2
    · rw [if_pos c4] at H
      have c4b0 : decide (a0 < 2) = true := decide_eq_true c4
      clear c4
      (first | rw [c4b0] | (simp only [i64_w, i32_w]; rw [c4b0]) | skip)
      have H' := Aside0.mk H
      clear H
      go_wp2
      go_meet
      case rel => exact ⟨_, (true), (by first | rfl | (simp; done) | (simp [*]; done)), H', ⟨by first | omega | exact Nat.le_refl _⟩, by repeat (first | exact Drawn0.refl _ | apply Drawn0.step)⟩
    · rw [if_neg c4] at H
      have c4b0 : decide (a0 < 2) = false := decide_eq_false c4
      clear c4
      (first | rw [c4b0] | (simp only [i64_w, i32_w]; rw [c4b0]) | skip)
      have H' := Aside0.mk H
      clear H
      go_wp2
      go_meet
      case rel => exact ⟨_, (decide (a0 > 16)), (by first | rfl | (simp; done) | (simp [*]; done)), H', ⟨by first | omega | exact Nat.le_refl _⟩, by repeat (first | exact Drawn0.refl _ | apply Drawn0.step)⟩
  case rest =>
    clear HC3
    try clear c1
    try clear p2
    try clear c3
    try clear c4
    try clear c4b0
    obtain ⟨kq, x12_2, rfl, HA, HJ2, ⟨mc2, rfl⟩⟩ := hcut
    cases kq with
    | zero => exact absurd HA.out (by simp [voices_circle_valid.j0])
    | succ kj2 =>
      have H := HA.out
      clear HA
      simp only [voices_circle_valid.j0] at H
      by_cases c5 : x12_2 = true
      · subst c5
        have H1 : (some false) = some r := by rw [if_pos rfl] at H; exact H
        clear H
        have H := H1
        clear H1
        obtain rfl := Option.some.inj H
        go_wp2
        go_ret
        exact ⟨by first | rfl | (simp; done) | (simp [*]; done), by repeat (first | exact Drawn0.refl _ | apply Drawn0.step)⟩
      · replace c5 := Bool.eq_false_iff.mpr c5
        subst c5
        have H1 : (voices_circle_valid.l0 kj2 a0 l1 l1 (l1.length : Int) 0) = some r := by rw [if_neg (show ¬ (false = true) by decide)] at H; exact H
        clear H
        have H := H1
        clear H1
        have H' := Aside0.mk H
        clear H
        go_wp2
        go_loopg [15] kj2 (fun kq v15 w' => ∃ (x15_2 : Int), v15 = .int .i64 x15_2 ∧ Aside0 (voices_circle_valid.l0 kq a0 l1 l1 (l1.length : Int) x15_2 = some r) ∧ Aside0 (kq ≤ kj2) ∧ Drawn0 w w')
        case atStart => exact ⟨(0), (by first | rfl | (simp; done) | (simp [*]; done)), H', ⟨Nat.le_refl _⟩, by repeat (first | exact Drawn0.refl _ | apply Drawn0.step)⟩
        case round =>
          clear H'
          try clear c1
          try clear c2
          try clear p2
          try clear c3
          try clear c4
          try clear c4b0
          try clear c5
          try clear p2
          obtain ⟨x15_2, rfl, HA, HK2, ⟨m2, rfl⟩⟩ := hrel
          cases gk with
          | zero => exact absurd HA.out (by simp [voices_circle_valid.l0])
          | succ k2 =>
            have H := HA.out
            clear HA
            simp only [voices_circle_valid.l0] at H
            by_cases c6 : x15_2 < (l1.length : Int)
            · rw [if_pos c6] at H
              have c6b0 : decide (x15_2 < (l1.length : Int)) = true := decide_eq_true c6
              clear c6
              by_cases c7 : 0 ≤ x15_2
              · rw [if_pos c7] at H
                have c7b0 : decide (0 ≤ x15_2) = true := decide_eq_true c7
                clear c7
                by_cases c8 : x15_2 < (l1.length : Int)
                · rw [if_pos c8] at H
                  have c8b0 : decide (x15_2 < (l1.length : Int)) = true := decide_eq_true c8
                  clear c8
                  by_cases c9 : ((rd_L1 l1 x15_2).length : Int) < 1
                  · rw [if_pos c9] at H
                    have c9b0 : decide (((rd_L1 l1 x15_2).length : Int) < 1) = true := decide_eq_true c9
                    have c9b1 : decide ((rd_L1 l1 x15_2).length < 1) = true := decide_eq_true (by omega)
                    clear c9
                    obtain rfl := Option.some.inj H
                    have p1001 : 0 ≤ (x15_2 : Int) := of_decide_eq_true (by first | (with_reducible assumption) | assumption)
                    have q1001 : x15_2 < (l1.length : Int) := of_decide_eq_true (by first | (with_reducible assumption) | assumption)
                    obtain ⟨ad1001, A1001_0, c1001_0, e1001, hx1001_0, hl1001_0, hi1001_0⟩ := at_L1 HR1.out x15_2 p1001 q1001
                    cases e1001
                    have HR1001_0 := Aside0.mk hi1001_0
                    have HC1001_0 := Aside0.mk hl1001_0
                    clear hi1001_0 hl1001_0
                    replace p1001 := eq_true p1001
                    replace q1001 := eq_true q1001
                    go_wp2
                    go_ret
                    exact ⟨by first | rfl | (simp; done) | (simp [*]; done), by repeat (first | exact Drawn0.refl _ | apply Drawn0.step)⟩
                  · rw [if_neg c9] at H
                    have c9b0 : decide (((rd_L1 l1 x15_2).length : Int) < 1) = false := decide_eq_false c9
                    have c9b1 : decide ((rd_L1 l1 x15_2).length < 1) = false := decide_eq_false (by omega)
                    clear c9
                    by_cases c10 : ((rd_L1 l1 x15_2).length : Int) > 6
                    · rw [if_pos c10] at H
                      have c10b0 : decide (6 < ((rd_L1 l1 x15_2).length : Int)) = true := decide_eq_true c10
                      have c10b1 : decide (6 < (rd_L1 l1 x15_2).length) = true := decide_eq_true (by omega)
                      clear c10
                      obtain rfl := Option.some.inj H
                      have p1001 : 0 ≤ (x15_2 : Int) := of_decide_eq_true (by first | (with_reducible assumption) | assumption)
                      have q1001 : x15_2 < (l1.length : Int) := of_decide_eq_true (by first | (with_reducible assumption) | assumption)
                      obtain ⟨ad1001, A1001_0, c1001_0, e1001, hx1001_0, hl1001_0, hi1001_0⟩ := at_L1 HR1.out x15_2 p1001 q1001
                      cases e1001
                      have HR1001_0 := Aside0.mk hi1001_0
                      have HC1001_0 := Aside0.mk hl1001_0
                      clear hi1001_0 hl1001_0
                      replace p1001 := eq_true p1001
                      replace q1001 := eq_true q1001
                      go_wp2
                      go_ret
                      exact ⟨by first | rfl | (simp; done) | (simp [*]; done), by repeat (first | exact Drawn0.refl _ | apply Drawn0.step)⟩
                    · rw [if_neg c10] at H
                      have c10b0 : decide (6 < ((rd_L1 l1 x15_2).length : Int)) = false := decide_eq_false c10
                      have c10b1 : decide (6 < (rd_L1 l1 x15_2).length) = false := decide_eq_false (by omega)
                      clear c10
                      by_cases c11 : 0 < (l1.length : Int)
                      · rw [if_pos c11] at H
                        have c11b0 : decide (0 < (l1.length : Int)) = true := decide_eq_true c11
                        have c11b1 : decide (0 < l1.length) = true := decide_eq_true (by omega)
                        clear c11
                        by_cases c12 : ((rd_L1 l1 x15_2).length : Int) = ((rd_L1 l1 0).length : Int)
                        · rw [if_pos c12] at H
                          have c12b0 : (((rd_L1 l1 x15_2).length : Int) == ((rd_L1 l1 0).length : Int)) = true := beq_iff_eq.mpr c12
                          have c12b1 : (((rd_L1 l1 x15_2).length : Int) != ((rd_L1 l1 0).length : Int)) = false := bne_eq_false_iff_eq.mpr c12
                          have c12b2 : ((rd_L1 l1 x15_2).length == (rd_L1 l1 0).length) = true := by first | simpa using c12 | (simp at c12 ⊢; omega)
                          clear c12
                          replace H := Option.bind_eq_some_iff.mp H
                          obtain ⟨t1003, A130, H⟩ := H
                          replace H : (if t1003 < 0 then (some false) else ((slices_Max_int_int.f (rd_L1 l1 x15_2)).bind fun t1004 => (if t1004 ≥ a0 then (some false) else (voices_circle_valid.l0 k2 a0 l1 l1 (l1.length : Int) (wrap64 (x15_2 + 1)))))) = some r := H
                          have A13 := Aside0.mk A130
                          clear A130
                          by_cases c14 : t1003 < 0
                          · rw [if_pos c14] at H
                            have c14b0 : decide (t1003 < 0) = true := decide_eq_true c14
                            clear c14
                            obtain rfl := Option.some.inj H
                            have p1001 : 0 ≤ (x15_2 : Int) := of_decide_eq_true (by first | (with_reducible assumption) | assumption)
                            have q1001 : x15_2 < (l1.length : Int) := of_decide_eq_true (by first | (with_reducible assumption) | assumption)
                            obtain ⟨ad1001, A1001_0, c1001_0, e1001, hx1001_0, hl1001_0, hi1001_0⟩ := at_L1 HR1.out x15_2 p1001 q1001
                            cases e1001
                            have HR1001_0 := Aside0.mk hi1001_0
                            have HC1001_0 := Aside0.mk hl1001_0
                            clear hi1001_0 hl1001_0
                            replace p1001 := eq_true p1001
                            replace q1001 := eq_true q1001
                            have p1002 : 0 ≤ (0 : Int) := (by omega)
                            have q1002 : 0 < (l1.length : Int) := of_decide_eq_true (by first | (with_reducible assumption) | assumption)
                            obtain ⟨ad1002, A1002_0, c1002_0, e1002, hx1002_0, hl1002_0, hi1002_0⟩ := at_L1 HR1.out 0 p1002 q1002
                            obtain rfl : ad1001 = ad1002 := (by injection e1002)
                            have qi1002 : (0 < l1.length) = True := eq_true (by omega)
                            (try rw [show ((0 : Int)).toNat = 0 from rfl] at hx1002_0)
                            (try rw [Addr.add_zero'] at hx1002_0)
                            have HR1002_0 := Aside0.mk hi1002_0
                            have HC1002_0 := Aside0.mk hl1002_0
                            clear hi1002_0 hl1002_0
                            replace p1002 := eq_true p1002
                            replace q1002 := eq_true q1002
                            go_wp2_with (first | (go_at_call 50; (with_reducible refine (slices_Min_int_int.calls _ _ (rd_L1 l1 x15_2) t1003 _ ?side1 ?side2 A13.out).mono ?_); (case side1 => repeat (first | exact HR1001_0.out | (with_reducible refine Kd.C_alloc ?_ _) | (with_reducible refine Kd.C_drewN ?_ _) | (with_reducible refine Kd.C_drew ?_))); (case side2 => exact HC1001_0.out); rintro e w' ⟨rfl, ⟨nd, rfl⟩⟩))
                            go_ret
                            exact ⟨by first | rfl | (simp; done) | (simp [*]; done), by repeat (first | exact Drawn0.refl _ | apply Drawn0.step)⟩
                          · rw [if_neg c14] at H
                            have c14b0 : decide (t1003 < 0) = false := decide_eq_false c14
                            clear c14
                            replace H := Option.bind_eq_some_iff.mp H
                            obtain ⟨t1004, A150, H⟩ := H
                            replace H : (if t1004 ≥ a0 then (some false) else (voices_circle_valid.l0 k2 a0 l1 l1 (l1.length : Int) (wrap64 (x15_2 + 1)))) = some r := H
                            have A15 := Aside0.mk A150
                            clear A150
                            by_cases c16 : t1004 ≥ a0
                            · rw [if_pos c16] at H
                              have c16b0 : decide (a0 ≤ t1004) = true := decide_eq_true c16
                              clear c16
                              obtain rfl := Option.some.inj H
                              have p1001 : 0 ≤ (x15_2 : Int) := of_decide_eq_true (by first | (with_reducible assumption) | assumption)
                              have q1001 : x15_2 < (l1.length : Int) := of_decide_eq_true (by first | (with_reducible assumption) | assumption)
                              obtain ⟨ad1001, A1001_0, c1001_0, e1001, hx1001_0, hl1001_0, hi1001_0⟩ := at_L1 HR1.out x15_2 p1001 q1001
                              cases e1001
                              have HR1001_0 := Aside0.mk hi1001_0
                              have HC1001_0 := Aside0.mk hl1001_0
                              clear hi1001_0 hl1001_0
                              replace p1001 := eq_true p1001
                              replace q1001 := eq_true q1001
                              have p1002 : 0 ≤ (0 : Int) := (by omega)
                              have q1002 : 0 < (l1.length : Int) := of_decide_eq_true (by first | (with_reducible assumption) | assumption)
                              obtain ⟨ad1002, A1002_0, c1002_0, e1002, hx1002_0, hl1002_0, hi1002_0⟩ := at_L1 HR1.out 0 p1002 q1002
                              obtain rfl : ad1001 = ad1002 := (by injection e1002)
                              have qi1002 : (0 < l1.length) = True := eq_true (by omega)
                              (try rw [show ((0 : Int)).toNat = 0 from rfl] at hx1002_0)
                              (try rw [Addr.add_zero'] at hx1002_0)
                              have HR1002_0 := Aside0.mk hi1002_0
                              have HC1002_0 := Aside0.mk hl1002_0
                              clear hi1002_0 hl1002_0
                              replace p1002 := eq_true p1002
                              replace q1002 := eq_true q1002
                              go_wp2_with (first | (go_at_call 50; (with_reducible refine (slices_Min_int_int.calls _ _ (rd_L1 l1 x15_2) t1003 _ ?side1 ?side2 A13.out).mono ?_); (case side1 => repeat (first | exact HR1001_0.out | (with_reducible refine Kd.C_alloc ?_ _) | (with_reducible refine Kd.C_drewN ?_ _) | (with_reducible refine Kd.C_drew ?_))); (case side2 => exact HC1001_0.out); rintro e w' ⟨rfl, ⟨nd, rfl⟩⟩) | (go_at_call 51; (with_reducible refine (slices_Max_int_int.calls _ _ (rd_L1 l1 x15_2) t1004 _ ?side1 ?side2 A15.out).mono ?_); (case side1 => repeat (first | exact HR1001_0.out | (with_reducible refine Kd.C_alloc ?_ _) | (with_reducible refine Kd.C_drewN ?_ _) | (with_reducible refine Kd.C_drew ?_))); (case side2 => exact HC1001_0.out); rintro e w' ⟨rfl, ⟨nd, rfl⟩⟩))
                              go_ret
                              exact ⟨by first | rfl | (simp; done) | (simp [*]; done), by repeat (first | exact Drawn0.refl _ | apply Drawn0.step)⟩
                            · rw [if_neg c16] at H
                              have c16b0 : decide (a0 ≤ t1004) = false := decide_eq_false c16
                              clear c16
                              have H' := Aside0.mk H
                              clear H
                              have p1001 : 0 ≤ (x15_2 : Int) := of_decide_eq_true (by first | (with_reducible assumption) | assumption)
                              have q1001 : x15_2 < (l1.length : Int) := of_decide_eq_true (by first | (with_reducible assumption) | assumption)
                              obtain ⟨ad1001, A1001_0, c1001_0, e1001, hx1001_0, hl1001_0, hi1001_0⟩ := at_L1 HR1.out x15_2 p1001 q1001
                              cases e1001
                              have HR1001_0 := Aside0.mk hi1001_0
                              have HC1001_0 := Aside0.mk hl1001_0
                              clear hi1001_0 hl1001_0
                              replace p1001 := eq_true p1001
                              replace q1001 := eq_true q1001
                              have p1002 : 0 ≤ (0 : Int) := (by omega)
                              have q1002 : 0 < (l1.length : Int) := of_decide_eq_true (by first | (with_reducible assumption) | assumption)
                              obtain ⟨ad1002, A1002_0, c1002_0, e1002, hx1002_0, hl1002_0, hi1002_0⟩ := at_L1 HR1.out 0 p1002 q1002
                              obtain rfl : ad1001 = ad1002 := (by injection e1002)
                              have qi1002 : (0 < l1.length) = True := eq_true (by omega)
                              (try rw [show ((0 : Int)).toNat = 0 from rfl] at hx1002_0)
                              (try rw [Addr.add_zero'] at hx1002_0)
                              have HR1002_0 := Aside0.mk hi1002_0
                              have HC1002_0 := Aside0.mk hl1002_0
                              clear hi1002_0 hl1002_0
                              replace p1002 := eq_true p1002
                              replace q1002 := eq_true q1002
                              go_wp2_with (first | (go_at_call 50; (with_reducible refine (slices_Min_int_int.calls _ _ (rd_L1 l1 x15_2) t1003 _ ?side1 ?side2 A13.out).mono ?_); (case side1 => repeat (first | exact HR1001_0.out | (with_reducible refine Kd.C_alloc ?_ _) | (with_reducible refine Kd.C_drewN ?_ _) | (with_reducible refine Kd.C_drew ?_))); (case side2 => exact HC1001_0.out); rintro e w' ⟨rfl, ⟨nd, rfl⟩⟩) | (go_at_call 51; (with_reducible refine (slices_Max_int_int.calls _ _ (rd_L1 l1 x15_2) t1004 _ ?side1 ?side2 A15.out).mono ?_); (case side1 => repeat (first | exact HR1001_0.out | (with_reducible refine Kd.C_alloc ?_ _) | (with_reducible refine Kd.C_drewN ?_ _) | (with_reducible refine Kd.C_drew ?_))); (case side2 => exact HC1001_0.out); rintro e w' ⟨rfl, ⟨nd, rfl⟩⟩))
                              go_roundg k2
                              case measure => have := HJ2.out; have := HK2.out; omega
                              case rel => exact ⟨(wrap64 (x15_2 + 1)), (by first | rfl | (simp; done) | (simp [*]; done)), H', ⟨by have := HJ2.out; have := HK2.out; omega⟩, by repeat (first | exact Drawn0.refl _ | apply Drawn0.step)⟩
                        · rw [if_neg c12] at H
                          have c12b0 : (((rd_L1 l1 x15_2).length : Int) == ((rd_L1 l1 0).length : Int)) = false := beq_eq_false_iff_ne.mpr c12
                          have c12b1 : (((rd_L1 l1 x15_2).length : Int) != ((rd_L1 l1 0).length : Int)) = true := bne_iff_ne.mpr c12
                          have c12b2 : ((rd_L1 l1 x15_2).length == (rd_L1 l1 0).length) = false := by first | simpa using c12 | (simp at c12 ⊢; omega)
                          obtain rfl := Option.some.inj H
                          have p1001 : 0 ≤ (x15_2 : Int) := of_decide_eq_true (by first | (with_reducible assumption) | assumption)
                          have q1001 : x15_2 < (l1.length : Int) := of_decide_eq_true (by first | (with_reducible assumption) | assumption)
                          obtain ⟨ad1001, A1001_0, c1001_0, e1001, hx1001_0, hl1001_0, hi1001_0⟩ := at_L1 HR1.out x15_2 p1001 q1001
                          cases e1001
                          have HR1001_0 := Aside0.mk hi1001_0
                          have HC1001_0 := Aside0.mk hl1001_0
                          clear hi1001_0 hl1001_0
                          replace p1001 := eq_true p1001
                          replace q1001 := eq_true q1001
                          have p1002 : 0 ≤ (0 : Int) := (by omega)
                          have q1002 : 0 < (l1.length : Int) := of_decide_eq_true (by first | (with_reducible assumption) | assumption)
                          obtain ⟨ad1002, A1002_0, c1002_0, e1002, hx1002_0, hl1002_0, hi1002_0⟩ := at_L1 HR1.out 0 p1002 q1002
                          obtain rfl : ad1001 = ad1002 := (by injection e1002)
                          have qi1002 : (0 < l1.length) = True := eq_true (by omega)
                          (try rw [show ((0 : Int)).toNat = 0 from rfl] at hx1002_0)
                          (try rw [Addr.add_zero'] at hx1002_0)
                          have HR1002_0 := Aside0.mk hi1002_0
                          have HC1002_0 := Aside0.mk hl1002_0
                          clear hi1002_0 hl1002_0
                          replace p1002 := eq_true p1002
                          replace q1002 := eq_true q1002
                          go_wp2
                          go_ret
                          exact ⟨by first | rfl | (simp; done) | (simp [*]; done), by repeat (first | exact Drawn0.refl _ | apply Drawn0.step)⟩
                      · rw [if_neg c11] at H
                        exact absurd H (by simp)
                · rw [if_neg c8] at H
                  exact absurd H (by simp)
              · rw [if_neg c7] at H
                exact absurd H (by simp)
            · rw [if_neg c6] at H
              have c6b0 : decide (x15_2 < (l1.length : Int)) = false := decide_eq_false c6
              clear c6
              obtain rfl := Option.some.inj H
              go_wp2
              go_ret
              exact ⟨by first | rfl | (simp; done) | (simp [*]; done), by repeat (first | exact Drawn0.refl _ | apply Drawn0.step)⟩

end Go.Proofs.Ytdnjbjcfbdclfaa.P
namespace Go.Proofs.Ytdnjbjcfbdclfaa.P
open Go.RowKit Go.Proofs.YtdnjbjcfbdclfaaW.PrintWords Go.Proofs.YtdnjbjcfbdclfaaW.PrintLast Go.Proofs.YtdnjbjcfbdclfaaW.PrintMore
attribute [local go_sem] max2_int min2_int max_two min_two max_three min_three max_four min_four   -- for this text's walks alone
set_option linter.unusedVariables false
set_option linter.unusedSimpArgs false

/-! voicings on a circle: what the first functions of voices come to -/
def VoiN (n : Int) (a : List Int) : Prop := 2 ≤ n ∧ n ≤ 16 ∧ 1 ≤ a.length ∧ a.length ≤ 6 ∧ ∀ x ∈ a, 0 ≤ x ∧ x < n
instance (n : Int) (a : List Int) : Decidable (VoiN n a) := by unfold VoiN; infer_instance
def TwoN (n : Int) (a b : List Int) : Prop := VoiN n a ∧ VoiN n b ∧ a.length = b.length
instance (n : Int) (a b : List Int) : Decidable (TwoN n a b) := by unfold TwoN; infer_instance
def ValL (n : Int) (L : List (List Int)) : Prop := 2 ≤ n ∧ n ≤ 16 ∧ ∀ v ∈ L, VoiN n v ∧ v.length = (L.getD 0 []).length
theorem foldl_min_int : ∀ (l : List Int) (m : Int), l.foldl min m ∈ m :: l ∧ ∀ b ∈ m :: l, l.foldl min m ≤ b
  | [], m => ⟨by simp, by simp⟩
  | c :: l, m => by
    obtain ⟨h1, h2⟩ := foldl_min_int l (min m c)
    rw [List.foldl_cons]
    refine ⟨?_, fun b hb => ?_⟩
    · rcases List.mem_cons.1 h1 with h | h
      · rw [h]; rcases Int.le_total m c with h3 | h3
        · rw [Int.min_eq_left h3]; simp
        · rw [Int.min_eq_right h3]; simp
      · simp [h]
    · have h3 := h2 (min m c) (by simp)
      rw [List.mem_cons, List.mem_cons] at hb
      rcases hb with rfl | rfl | hb
      · omega
      · omega
      · exact h2 b (by simp [hb])
theorem foldl_max_int : ∀ (l : List Int) (m : Int), l.foldl max m ∈ m :: l ∧ ∀ b ∈ m :: l, b ≤ l.foldl max m
  | [], m => ⟨by simp, by simp⟩
  | c :: l, m => by
    obtain ⟨h1, h2⟩ := foldl_max_int l (max m c)
    rw [List.foldl_cons]
    refine ⟨?_, fun b hb => ?_⟩
    · rcases List.mem_cons.1 h1 with h | h
      · rw [h]; rcases Int.le_total m c with h3 | h3
        · rw [Int.max_eq_right h3]; simp
        · rw [Int.max_eq_left h3]; simp
      · simp [h]
    · have h3 := h2 (max m c) (by simp)
      rw [List.mem_cons, List.mem_cons] at hb
      rcases hb with rfl | rfl | hb
      · omega
      · omega
      · exact h2 b (by simp [hb])
theorem minL_spec {l : List Int} (h : 1 ≤ l.length) : minL l ∈ l ∧ ∀ b ∈ l, minL l ≤ b := by
  cases l with
  | nil => simp at h
  | cons x l => exact foldl_min_int l x
theorem maxL_spec {l : List Int} (h : 1 ≤ l.length) : maxL l ∈ l ∧ ∀ b ∈ l, b ≤ maxL l := by
  cases l with
  | nil => simp at h
  | cons x l => exact foldl_max_int l x
theorem rdL_mid {pre rest : List (List Int)} {v : List Int} : rd_L1 (pre ++ v :: rest) (pre.length : Int) = v := by unfold rd_L1; simp
theorem rdL_zero (L : List (List Int)) : rd_L1 L 0 = L.getD 0 [] := rfl
theorem valid_loop (n : Int) (hn : 2 ≤ n ∧ n ≤ 16) (L : List (List Int)) (hL : L.length < 1000) : ∀ (rest pre : List (List Int)), L = pre ++ rest →
    Ev (fun k => voices_circle_valid.l0 k n L L (L.length : Int) (pre.length : Int)) (decide (∀ v ∈ rest, VoiN n v ∧ v.length = (L.getD 0 []).length)) := by
  intro rest
  induction rest with
  | nil =>
    intro pre hp
    have p1 : ¬ (pre.length : Int) < (L.length : Int) := by rw [hp]; simp
    refine Ev.succ ?_
    simp only [voices_circle_valid.l0, if_neg p1]
    exact Ev.some _
  | cons v rest ih =>
    intro pre hp
    have hlen : L.length = pre.length + (rest.length + 1) := by rw [hp]; simp
    have p1 : (pre.length : Int) < (L.length : Int) := by omega
    have p0 : (0 : Int) ≤ (pre.length : Int) := by omega
    have pL : (0 : Int) < (L.length : Int) := by omega
    have hv : rd_L1 L (pre.length : Int) = v := by rw [hp]; exact rdL_mid
    have go := ih (pre ++ [v]) (by rw [hp]; simp)
    have hw : wrap64 ((pre.length : Int) + 1) = ((pre ++ [v]).length : Int) := by rw [wrap_id (by omega) (by omega)]; simp
    generalize hz : (L.getD 0 []).length = z at *
    have hno : ¬ (VoiN n v ∧ v.length = z) → decide (∀ u ∈ v :: rest, VoiN n u ∧ u.length = z) = false := fun h => decide_eq_false (fun h2 => h (h2 v (by simp)))
    have hyes : (VoiN n v ∧ v.length = z) → decide (∀ u ∈ v :: rest, VoiN n u ∧ u.length = z) = decide (∀ u ∈ rest, VoiN n u ∧ u.length = z) := fun h => by
      rw [decide_eq_decide]
      exact ⟨fun h2 u hu => h2 u (by simp [hu]), fun h2 u hu => by
        rcases List.mem_cons.1 hu with rfl | hu
        · exact h
        · exact h2 u hu⟩
    refine Ev.succ ?_
    simp only [voices_circle_valid.l0, if_pos p1, if_pos p0, hv, if_pos pL, rdL_zero, hz, hw]
    refine Ev.ite (fun e => ?_) (fun e1 => ?_)
    · rw [hno (fun h => by have := h.1.2.2.1; omega)]; exact Ev.some _
    refine Ev.ite (fun e => ?_) (fun e2 => ?_)
    · rw [hno (fun h => by have := h.1.2.2.2.1; omega)]; exact Ev.some _
    refine Ev.ite (fun e3 => ?_) (fun e3 => ?_)
    · have hv1 : 1 ≤ v.length := by omega
      have f1 : slices_Min_int_int.f v = some (minL v) := by unfold slices_Min_int_int.f; rw [if_neg (by omega)]
      have f2 : slices_Max_int_int.f v = some (maxL v) := by unfold slices_Max_int_int.f; rw [if_neg (by omega)]
      obtain ⟨m1, m2⟩ := minL_spec hv1
      obtain ⟨m3, m4⟩ := maxL_spec hv1
      refine Ev.bind_some f1 ?_
      refine Ev.ite (fun e4 => ?_) (fun e4 => ?_)
      · rw [hno (fun h => by have := (h.1.2.2.2.2 _ m1).1; omega)]; exact Ev.some _
      refine Ev.bind_some f2 ?_
      refine Ev.ite (fun e5 => ?_) (fun e5 => ?_)
      · rw [hno (fun h => by have := (h.1.2.2.2.2 _ m3).2; omega)]; exact Ev.some _
      rw [hyes ⟨⟨hn.1, hn.2, hv1, by omega, fun x hx => ⟨by have := m2 x hx; omega, by have := m4 x hx; omega⟩⟩, by omega⟩]
      exact go
    · rw [hno (fun h => e3 (by rw [h.2]))]; exact Ev.some _
theorem valid_ev (n : Int) (L : List (List Int)) (hL : L.length < 1000) : Ev (fun k => voices_circle_valid.f k n L) (decide (2 ≤ n ∧ n ≤ 16 ∧ ∀ v ∈ L, VoiN n v ∧ v.length = (L.getD 0 []).length)) := by
  unfold voices_circle_valid.f
  refine Ev.ite (fun e => ?_) (fun e => ?_)
  · refine Ev.succ ?_
    simp only [voices_circle_valid.j0, if_true]
    rw [decide_eq_false (fun h => by omega)]
    exact Ev.some _
  · refine Ev.succ ?_
    by_cases h : n > 16
    · simp only [voices_circle_valid.j0, decide_eq_true h, if_true]
      rw [decide_eq_false (fun h => by omega)]
      exact Ev.some _
    · simp only [voices_circle_valid.j0, decide_eq_false h, Bool.false_eq_true, if_false]
      have := valid_loop n ⟨by omega, by omega⟩ L hL L [] rfl
      have e2 : decide (2 ≤ n ∧ n ≤ 16 ∧ ∀ v ∈ L, VoiN n v ∧ v.length = (L.getD 0 []).length) = decide (∀ v ∈ L, VoiN n v ∧ v.length = (L.getD 0 []).length) := by
        rw [decide_eq_decide]; exact ⟨fun h => h.2.2, fun h2 => ⟨by omega, by omega, h2⟩⟩
      rw [e2]
      exact this
theorem valid2_ev (n : Int) (a b : List Int) : Ev (fun k => voices_circle_valid.f k n [a, b]) (decide (TwoN n a b)) := by
  have h := valid_ev n [a, b] (by simp)
  have e : decide (2 ≤ n ∧ n ≤ 16 ∧ ∀ v ∈ [a, b], VoiN n v ∧ v.length = ([a, b].getD 0 []).length) = decide (TwoN n a b) := by
    rw [decide_eq_decide]
    unfold TwoN
    constructor
    · rintro ⟨_, _, h⟩
      exact ⟨(h a (by simp)).1, (h b (by simp)).1, ((h b (by simp)).2).symm⟩
    · rintro ⟨h1, h2, h3⟩
      refine ⟨h1.1, h1.2.1, fun v hv => ?_⟩
      rcases List.mem_cons.1 hv with rfl | hv
      · exact ⟨h1, rfl⟩
      · rw [List.mem_singleton] at hv; subst hv; exact ⟨h2, h3.symm⟩
  rw [e] at h
  exact h
/-! movements, distances, prices -/
def mvN (n x y : Int) : Int := if 2 * ((y - x) % n) > n then (y - x) % n - n else (y - x) % n
def dsN (n x y : Int) : Int := max (mvN n x y) (-(mvN n x y))
theorem mod_f {n x : Int} (hn : 2 ≤ n) (hn2 : n ≤ 16) : voices_circle_mod.f n x = some (x % n) := by
  unfold voices_circle_mod.f
  rw [if_neg (by omega), tmod_mod (by omega) (by omega)]
theorem mvN_bd {n x y : Int} (hn : 2 ≤ n) : -n ≤ 2 * mvN n x y ∧ 2 * mvN n x y ≤ n := by
  have h1 := Int.emod_nonneg (y - x) (show n ≠ 0 by omega)
  have h2 := Int.emod_lt_of_pos (y - x) (show 0 < n by omega)
  unfold mvN
  split <;> omega
theorem dsN_bd {n x y : Int} (hn : 2 ≤ n) : 0 ≤ dsN n x y ∧ 2 * dsN n x y ≤ n := by
  have := mvN_bd (x := x) (y := y) hn
  unfold dsN; omega
theorem movement_f {n x y : Int} (hn : 2 ≤ n) (hn2 : n ≤ 16) (hx : 0 ≤ x ∧ x < n) (hy : 0 ≤ y ∧ y < n) : voices_circle_movement.f n x y = some (mvN n x y) := by
  have h1 := Int.emod_nonneg (y - x) (show n ≠ 0 by omega)
  have h2 := Int.emod_lt_of_pos (y - x) (show 0 < n by omega)
  unfold voices_circle_movement.f
  rw [wrap_id (n := y - x) (by omega) (by omega), mod_f hn hn2, Option.bind_some]
  unfold mvN
  rw [wrap_id (n := 2 * ((y - x) % n)) (by omega) (by omega)]
  split
  · rw [wrap_id (by omega) (by omega)]
  · rfl
theorem distance_f {n x y : Int} (hn : 2 ≤ n) (hn2 : n ≤ 16) (hx : 0 ≤ x ∧ x < n) (hy : 0 ≤ y ∧ y < n) : voices_circle_distance.f n x y = some (dsN n x y) := by
  have := mvN_bd (x := x) (y := y) hn
  unfold voices_circle_distance.f
  rw [movement_f hn hn2 hx hy, Option.bind_some]
  unfold voices_abs.f
  rw [wrap_id (by omega) (by omega), mx_eq]
  rfl
def prI (n : Int) (a b : List Int) : List Int → Nat → Int
  | [], _ => 0
  | k :: l, i => dsN n (a.getD i 0) (b.getD k.toNat 0) + prI n a b l (i + 1)
theorem prI_bd {n : Int} (hn : 2 ≤ n) (a b : List Int) : ∀ (l : List Int) (i : Nat), 0 ≤ prI n a b l i ∧ 2 * prI n a b l i ≤ n * l.length
  | [], _ => by simp [prI]
  | k :: l, i => by
    have h := prI_bd hn a b l (i + 1)
    have h2 := dsN_bd (n := n) (x := a.getD i 0) (y := b.getD k.toNat 0) hn
    simp only [prI, List.length_cons]
    rw [Int.natCast_add, Int.mul_add n, show n * ((1 : Nat) : Int) = n by simp]
    generalize n * (l.length : Int) = q at h ⊢
    omega
theorem getD_mem {l : List Int} {i : Nat} (h : i < l.length) : l.getD i 0 ∈ l := by rw [List.getD_eq_getElem?_getD, List.getElem?_eq_getElem h]; exact List.getElem_mem h
theorem price_ev {n : Int} {a b : List Int} (ha : VoiN n a) (hb : VoiN n b) (full : List Int) (hf : full.length ≤ a.length) (hk : ∀ k ∈ full, 0 ≤ k ∧ k < b.length) : Ev (fun k => voices_circle_price.f k n a b full) (prI n a b full 0) := by
  obtain ⟨hn, hn2, ha1, ha2, hax⟩ := ha
  obtain ⟨_, _, hb1, hb2, hbx⟩ := hb
  have loop : ∀ (rest pre : List Int) (acc : Int), full = pre ++ rest → 0 ≤ acc → acc ≤ 16 * pre.length →
      Ev (fun k => voices_circle_price.l0 k n a b acc full (full.length : Int) (pre.length : Int)) (acc + prI n a b rest pre.length) := by
    intro rest
    induction rest with
    | nil =>
      intro pre acc hp h0 h1
      have p1 : ¬ (pre.length : Int) < (full.length : Int) := by rw [hp]; simp
      refine Ev.succ ?_
      simp only [voices_circle_price.l0, if_neg p1, prI, Int.add_zero]
      exact Ev.some _
    | cons x rest ih =>
      intro pre acc hp h0 h1
      have hlen : full.length = pre.length + (rest.length + 1) := by rw [hp]; simp
      have p1 : (pre.length : Int) < (full.length : Int) := by omega
      have p0 : (0 : Int) ≤ (pre.length : Int) := by omega
      have pa : (pre.length : Int) < (a.length : Int) := by omega
      have hrd : rd full (pre.length : Int) = x := mid_rd hp
      have hx := hk x (by rw [hp]; simp)
      have hda := getD_mem (l := a) (i := pre.length) (by omega)
      have hdb := getD_mem (l := b) (i := x.toNat) (by omega)
      have e1 : rd a (pre.length : Int) = a.getD pre.length 0 := rd_nat _ _
      have e2 : rd b x = b.getD x.toNat 0 := rfl
      have hd := dsN_bd (n := n) (x := a.getD pre.length 0) (y := b.getD x.toNat 0) hn
      have hdf := distance_f hn hn2 (hax _ hda) (hbx _ hdb)
      have hw : wrap64 ((pre.length : Int) + 1) = ((pre ++ [x]).length : Int) := by rw [wrap_id (by omega) (by omega)]; simp
      have hw2 : wrap64 (acc + dsN n (a.getD pre.length 0) (b.getD x.toNat 0)) = acc + dsN n (a.getD pre.length 0) (b.getD x.toNat 0) := wrap_id (by omega) (by omega)
      have hl1 : (pre ++ [x]).length = pre.length + 1 := by simp
      have go := ih (pre ++ [x]) (acc + dsN n (a.getD pre.length 0) (b.getD x.toNat 0)) (by rw [hp]; simp) (by omega) (by rw [hl1]; omega)
      rw [hl1] at go
      refine Ev.succ ?_
      simp only [voices_circle_price.l0, if_pos p1, if_pos p0, if_pos pa, hrd, if_pos hx.1, if_pos hx.2, e1, e2]
      refine Ev.bind_some hdf ?_
      rw [hw, hw2, hl1]
      simp only [prI]
      rw [← Int.add_assoc]
      exact go
  have h := loop full [] 0 rfl (Int.le_refl _) (by simp)
  rw [Int.zero_add] at h
  exact h

end Go.Proofs.Ytdnjbjcfbdclfaa.P
namespace Go.Proofs.Ytdnjbjcfbdclfaa.P
open Go.RowKit Go.Proofs.YtdnjbjcfbdclfaaW.PrintWords Go.Proofs.YtdnjbjcfbdclfaaW.PrintLast Go.Proofs.YtdnjbjcfbdclfaaW.PrintMore
attribute [local go_sem] max2_int min2_int max_two min_two max_three min_three max_four min_four   -- for this text's walks alone
set_option linter.unusedVariables false
set_option linter.unusedSimpArgs false

/-! voices.Cost and voices.Lead -/
def prV (n : Int) (a b : List Int) (x : List Nat) : Int := prI n a b (nums x) 0
def bestV (n : Int) (a b : List Int) : Option (List Nat) × Int := bfold (prV n a b) (fun _ => true) (ldg a.length a.length 0 [])
def voices_Cost.f (a0 : Int) (l1 l2 : List Int) : Option (Int × Int) := if TwoN a0 l1 l2 then some ((bestV a0 l1 l2).2, 0) else some (0, 2)
def voices_Lead.f (a0 : Int) (l1 l2 : List Int) : Option (List Int × Int) := if TwoN a0 l1 l2 then some (optL (bestV a0 l1 l2).1, 0) else some ([], 2)
theorem always_calls (v : Value) (W : World) : Calls Try.prog 36 #[v] W fun e W' => e = .returned (.bool true) ∧ Below W.heap.size W W' := by
  go_enter Try.func36, Try.ntmps36
  go_wp2
  go_ret
  exact ⟨rfl, Below.refl _ _⟩
theorem price_nums {n : Int} {a b : List Int} (h : TwoN n a b) (x : List Nat) (hx : x.length = a.length) (hl : ∀ y ∈ x, y < a.length) : ∃ kk, voices_circle_price.f kk n a b (nums x) = some (prV n a b x) :=
  Ev.rounds (g := fun k => voices_circle_price.f k n a b (nums x)) (price_ev h.1 h.2.1 (nums x) (by rw [nums_length]; omega) (fun k hk => by
    unfold nums at hk
    rw [List.mem_map] at hk
    obtain ⟨y, hy, rfl⟩ := hk
    have := hl y hy
    have := h.2.2
    show (0 : Int) ≤ (y : Int) ∧ (y : Int) < _
    omega))
theorem best_two {n : Int} {Aa : Option Addr} {ca : Nat} {a : List Int} {Ab : Option Addr} {cb : Nat} {b : List Int} {w : World} (h : TwoN n a b) (hra : Kd.C (Kd.int .i64) w Aa a.length a) (hca : a.length ≤ ca) (hrb : Kd.C (Kd.int .i64) w Ab b.length b) (hcb : b.length ≤ cb) :
    Calls Try.prog 35 #[.int .i64 n, .slice Aa a.length ca, .slice Ab b.length cb, .func (.func 36) #[] #[]] w (BestPost w (bestV n a b).1 (bestV n a b).2) :=
  best_calls w n Aa ca a Ab cb b 36 #[] (prV n a b) (fun _ => true) (enters_of Try.func36 (by kernel_rfl) rfl) a.length rfl h.1.2.2.1 (by have := h.1.2.2.2.1; omega) (fun x A c W _ _ _ _ _ => always_calls _ W) (price_nums h) hra hca hrb hcb
set_option maxHeartbeats 8000000 in
set_option maxRecDepth 100000 in
theorem voices_Cost.calls (a0 : Int) (A1 : Option Addr) (c1 : Nat) (l1 : List Int) (A2 : Option Addr) (c2 : Nat) (l2 : List Int) (r1 r2 : Int) (w : World) (hr1 : Kd.C (Kd.int .i64) w A1 l1.length l1) (hc1 : l1.length ≤ c1) (hr2 : Kd.C (Kd.int .i64) w A2 l2.length l2) (hc2 : l2.length ≤ c2) (h : voices_Cost.f a0 l1 l2 = some (r1, r2)) :
    Calls Try.prog 11 #[.int .i64 a0, .slice A1 l1.length c1, .slice A2 l2.length c2] w fun e w' => e = .returned (.tuple #[.int .i64 r1, .int .i64 r2]) ∧ Below w.heap.size w w' := by
  have HB := Aside0.mk (Below.refl w.heap.size w)
  have HO1 := Aside0.mk (Kd.V_mono (ok' := (fun k_ => ((k_ < w.heap.size ∨ k_ < w.heap.size) ∨ w.heap.size ≤ k_))) (V_of_C (e := 3) (base := w.heap.size) hr1 hc1) (fun _ hk => .inl (.inl hk)))
  have HO2 := Aside0.mk (Kd.V_mono (ok' := (fun k_ => ((k_ < w.heap.size ∨ k_ < w.heap.size) ∨ w.heap.size ≤ k_))) (V_of_C (e := 3) (base := w.heap.size) hr2 hc2) (fun _ hk => .inl (.inl hk)))
  have HR1 := Aside0.mk hr1
  have HR2 := Aside0.mk hr2
  have HC1 := Aside0.mk hc1
  have HC2 := Aside0.mk hc2
  unfold voices_Cost.f at h
  obtain ⟨k, hv⟩ := Ev.rounds (g := fun k => voices_circle_valid.f k a0 [l1, l2]) (valid2_ev a0 l1 l2)
  obtain ⟨y, hy⟩ : ∃ y : List (List Int), y = [l1, l2] := ⟨_, rfl⟩
  rw [← hy] at hv
  have HY := Aside0.mk hy
  clear hy hr1 hr2 hc1 hc2
  by_cases hc : TwoN a0 l1 l2
  · rw [decide_eq_true hc] at hv
    rw [if_pos hc] at h
    have HV := Aside0.mk hv
    have HT := Aside0.mk hc
    simp only [Option.some.injEq, Prod.mk.injEq] at h
    obtain ⟨hres, rfl⟩ := h
    have HRES := Aside0.mk hres
    clear hv hc hres
    go_enter Try.func11, Try.ntmps11
    go_wp2_with (first | ((with_reducible refine gate_dst (N := 13) rfl ?_); (try (refine gate_guard (by rfl) ?_; dsimp only)); refine Kd.N_lit (Kd.slice 3 (Kd.int .i64)) _ 22 ?hg (N' := 13) ?hd (xs := ([l1, l2] : List (List Int))) (inner := [.slice A1 l1.length c1, .slice A2 l2.length c2]) (ok := (fun k_ => ((k_ < w.heap.size ∨ k_ < w.heap.size) ∨ w.heap.size ≤ k_))) (okp := (fun k_ => ((k_ < w.heap.size ∨ k_ < w.heap.size) ∨ w.heap.size ≤ k_))) ?hr ?hp (fun _ hk => hk) ((show ∀ k_, w.heap.size ≤ k_ → (fun k_ => ((k_ < w.heap.size ∨ k_ < w.heap.size) ∨ w.heap.size ≤ k_)) k_ from fun k_ hk => (.inr (Nat.le_trans (below_size (by repeat (first | (with_reducible first | exact HB.out | apply below_alloc | apply pw_below_drewN | apply below_drew1) | exact HB.out))) hk))) _ (Nat.le_refl _)) (Below.refl _ _) (Nat.le_refl _) (by simp) ?_; (case hd => rfl); (case hg => rfl); (case hr => first | (go_simp; done) | (go_simp; rfl)); (case hp => exact (Reps.one (show Kd.FK (Kd.slice 3 (Kd.int .i64)) _ _ l1 [.slice A1 l1.length c1] from (Kd.FK_slice_mk (Kd.V_reads' (Kd.V_mono (ok' := (fun k_ => ((k_ < w.heap.size ∨ k_ < w.heap.size) ∨ w.heap.size ≤ k_))) (HO1.out) (fun k_ hk => hk))).2.1 (Kd.V_F (Kd.V_mono (ok' := (fun k_ => ((k_ < w.heap.size ∨ k_ < w.heap.size) ∨ w.heap.size ≤ k_))) (HO1.out) (fun k_ hk => hk))))) (Reps.one (show Kd.FK (Kd.slice 3 (Kd.int .i64)) _ _ l2 [.slice A2 l2.length c2] from (Kd.FK_slice_mk (Kd.V_reads' (Kd.V_mono (ok' := (fun k_ => ((k_ < w.heap.size ∨ k_ < w.heap.size) ∨ w.heap.size ≤ k_))) (HO2.out) (fun k_ hk => hk))).2.1 (Kd.V_F (Kd.V_mono (ok' := (fun k_ => ((k_ < w.heap.size ∨ k_ < w.heap.size) ∨ w.heap.size ≤ k_))) (HO2.out) (fun k_ hk => hk))))) (Reps.none _ _)))); intro v1002 w10 ho11 hb hg_ hnew_; clear hg_ hnew_; rw [← HY.out] at ho11; have n2_ := Aside0.mk (Kd.N_lower ho11 (below_size (by repeat (first | (with_reducible first | exact HB.out | apply below_alloc | apply pw_below_drewN | apply below_drew1) | exact HB.out)))); have n3_ := Aside0.mk (below_step (by repeat (first | (with_reducible first | exact HB.out | apply below_alloc | apply pw_below_drewN | apply below_drew1) | exact HB.out)) hb); clear HO1 HO2; clear HB; have HOV := n2_; have HB := n3_; clear n2_ n3_; clear hb ho11; obtain ⟨Ao12, co12, eo12⟩ := Kd.N_slice HOV.out; subst eo12) | ((with_reducible refine gate_callee (f := 34) rfl ?_); refine goesL_ (some 14) rfl rfl Try.func34 (by kernel_rfl) rfl #[.int .i64 a0, .slice Ao12 y.length co12] rfl (by (try simp only [List.map_toArray, List.map_cons, List.map_nil]); first | done | rfl) ?_; (with_reducible refine (voices_circle_valid.calls k a0 _ _ y true _ ?side1 ?side2 HV.out).mono ?_); (case side1 => repeat (first | exact (Kd.N_reads' HOV.out).2.2 | (with_reducible refine Kd.C_alloc ?_ _) | (with_reducible refine Kd.C_drewN ?_ _) | (with_reducible refine Kd.C_drew ?_))); (case side2 => exact (Kd.N_reads' HOV.out).2.1); rintro e w' ⟨rfl, ⟨nd, rfl⟩⟩; refine ⟨_, rfl, ?_⟩))
    go_wp2_with fail
    refine (best_two HT.out (Kd.C_below HR1.out (by repeat (first | (with_reducible first | exact HB.out | apply below_alloc | apply pw_below_drewN | apply below_drew1) | exact HB.out))) HC1.out (Kd.C_below HR2.out (by repeat (first | (with_reducible first | exact HB.out | apply below_alloc | apply pw_below_drewN | apply below_drew1) | exact HB.out))) HC2.out).mono ?_
    rintro e w12 ⟨A9, c9, rfl, hr9, hn9, hb9⟩
    have n0_ := Aside0.mk (below_step (by repeat (first | (with_reducible first | exact HB.out | apply below_alloc | apply pw_below_drewN | apply below_drew1) | exact HB.out)) hb9)
    have HR9 := Aside0.mk (Kd.R_lower hr9 (below_size (by repeat (first | (with_reducible first | exact HB.out | apply below_alloc | apply pw_below_drewN | apply below_drew1) | exact HB.out))))
    clear HB
    have HB := n0_
    clear n0_ hr9 hn9 hb9
    go_wp2
    go_ret2
    exact ⟨by rw [← HRES.out]; first | rfl | simp, HB.out⟩
  · rw [decide_eq_false hc] at hv
    rw [if_neg hc] at h
    have HV := Aside0.mk hv
    simp only [Option.some.injEq, Prod.mk.injEq] at h
    obtain ⟨rfl, rfl⟩ := h
    clear hv hc
    go_enter Try.func11, Try.ntmps11
    go_wp2_with (first | ((with_reducible refine gate_dst (N := 13) rfl ?_); (try (refine gate_guard (by rfl) ?_; dsimp only)); refine Kd.N_lit (Kd.slice 3 (Kd.int .i64)) _ 22 ?hg (N' := 13) ?hd (xs := ([l1, l2] : List (List Int))) (inner := [.slice A1 l1.length c1, .slice A2 l2.length c2]) (ok := (fun k_ => ((k_ < w.heap.size ∨ k_ < w.heap.size) ∨ w.heap.size ≤ k_))) (okp := (fun k_ => ((k_ < w.heap.size ∨ k_ < w.heap.size) ∨ w.heap.size ≤ k_))) ?hr ?hp (fun _ hk => hk) ((show ∀ k_, w.heap.size ≤ k_ → (fun k_ => ((k_ < w.heap.size ∨ k_ < w.heap.size) ∨ w.heap.size ≤ k_)) k_ from fun k_ hk => (.inr (Nat.le_trans (below_size (by repeat (first | (with_reducible first | exact HB.out | apply below_alloc | apply pw_below_drewN | apply below_drew1) | exact HB.out))) hk))) _ (Nat.le_refl _)) (Below.refl _ _) (Nat.le_refl _) (by simp) ?_; (case hd => rfl); (case hg => rfl); (case hr => first | (go_simp; done) | (go_simp; rfl)); (case hp => exact (Reps.one (show Kd.FK (Kd.slice 3 (Kd.int .i64)) _ _ l1 [.slice A1 l1.length c1] from (Kd.FK_slice_mk (Kd.V_reads' (Kd.V_mono (ok' := (fun k_ => ((k_ < w.heap.size ∨ k_ < w.heap.size) ∨ w.heap.size ≤ k_))) (HO1.out) (fun k_ hk => hk))).2.1 (Kd.V_F (Kd.V_mono (ok' := (fun k_ => ((k_ < w.heap.size ∨ k_ < w.heap.size) ∨ w.heap.size ≤ k_))) (HO1.out) (fun k_ hk => hk))))) (Reps.one (show Kd.FK (Kd.slice 3 (Kd.int .i64)) _ _ l2 [.slice A2 l2.length c2] from (Kd.FK_slice_mk (Kd.V_reads' (Kd.V_mono (ok' := (fun k_ => ((k_ < w.heap.size ∨ k_ < w.heap.size) ∨ w.heap.size ≤ k_))) (HO2.out) (fun k_ hk => hk))).2.1 (Kd.V_F (Kd.V_mono (ok' := (fun k_ => ((k_ < w.heap.size ∨ k_ < w.heap.size) ∨ w.heap.size ≤ k_))) (HO2.out) (fun k_ hk => hk))))) (Reps.none _ _)))); intro v1002 w10 ho11 hb hg_ hnew_; clear hg_ hnew_; rw [← HY.out] at ho11; have n2_ := Aside0.mk (Kd.N_lower ho11 (below_size (by repeat (first | (with_reducible first | exact HB.out | apply below_alloc | apply pw_below_drewN | apply below_drew1) | exact HB.out)))); have n3_ := Aside0.mk (below_step (by repeat (first | (with_reducible first | exact HB.out | apply below_alloc | apply pw_below_drewN | apply below_drew1) | exact HB.out)) hb); clear HO1 HO2; clear HB; have HOV := n2_; have HB := n3_; clear n2_ n3_; clear hb ho11; obtain ⟨Ao12, co12, eo12⟩ := Kd.N_slice HOV.out; subst eo12) | ((with_reducible refine gate_callee (f := 34) rfl ?_); refine goesL_ (some 14) rfl rfl Try.func34 (by kernel_rfl) rfl #[.int .i64 a0, .slice Ao12 y.length co12] rfl (by (try simp only [List.map_toArray, List.map_cons, List.map_nil]); first | done | rfl) ?_; (with_reducible refine (voices_circle_valid.calls k a0 _ _ y false _ ?side1 ?side2 HV.out).mono ?_); (case side1 => repeat (first | exact (Kd.N_reads' HOV.out).2.2 | (with_reducible refine Kd.C_alloc ?_ _) | (with_reducible refine Kd.C_drewN ?_ _) | (with_reducible refine Kd.C_drew ?_))); (case side2 => exact (Kd.N_reads' HOV.out).2.1); rintro e w' ⟨rfl, ⟨nd, rfl⟩⟩; refine ⟨_, rfl, ?_⟩))
    go_ret2
    exact ⟨by first | rfl | simp, (by repeat (first | (with_reducible first | exact HB.out | apply below_alloc | apply pw_below_drewN | apply below_drew1) | exact HB.out))⟩

set_option maxHeartbeats 8000000 in
set_option maxRecDepth 100000 in
theorem voices_Lead.calls (a0 : Int) (A1 : Option Addr) (c1 : Nat) (l1 : List Int) (A2 : Option Addr) (c2 : Nat) (l2 : List Int) (r1 : List Int) (r2 : Int) (w : World) (hr1 : Kd.C (Kd.int .i64) w A1 l1.length l1) (hc1 : l1.length ≤ c1) (hr2 : Kd.C (Kd.int .i64) w A2 l2.length l2) (hc2 : l2.length ≤ c2) (h : voices_Lead.f a0 l1 l2 = some (r1, r2)) :
    Calls Try.prog 19 #[.int .i64 a0, .slice A1 l1.length c1, .slice A2 l2.length c2] w fun e w' => ∃ v0_ : Value, e = .returned (.tuple #[v0_, .int .i64 r2]) ∧ Kd.R (Kd.int .i64) 3 w' w.heap.size (fun _ => True) v0_ r1 ∧ Below w.heap.size w w' := by
  have HB := Aside0.mk (Below.refl w.heap.size w)
  have HO1 := Aside0.mk (Kd.V_mono (ok' := (fun k_ => ((k_ < w.heap.size ∨ k_ < w.heap.size) ∨ w.heap.size ≤ k_))) (V_of_C (e := 3) (base := w.heap.size) hr1 hc1) (fun _ hk => .inl (.inl hk)))
  have HO2 := Aside0.mk (Kd.V_mono (ok' := (fun k_ => ((k_ < w.heap.size ∨ k_ < w.heap.size) ∨ w.heap.size ≤ k_))) (V_of_C (e := 3) (base := w.heap.size) hr2 hc2) (fun _ hk => .inl (.inl hk)))
  have HR1 := Aside0.mk hr1
  have HR2 := Aside0.mk hr2
  have HC1 := Aside0.mk hc1
  have HC2 := Aside0.mk hc2
  unfold voices_Lead.f at h
  obtain ⟨k, hv⟩ := Ev.rounds (g := fun k => voices_circle_valid.f k a0 [l1, l2]) (valid2_ev a0 l1 l2)
  obtain ⟨y, hy⟩ : ∃ y : List (List Int), y = [l1, l2] := ⟨_, rfl⟩
  rw [← hy] at hv
  have HY := Aside0.mk hy
  clear hy hr1 hr2 hc1 hc2
  by_cases hc : TwoN a0 l1 l2
  · rw [decide_eq_true hc] at hv
    rw [if_pos hc] at h
    have HV := Aside0.mk hv
    have HT := Aside0.mk hc
    simp only [Option.some.injEq, Prod.mk.injEq] at h
    obtain ⟨hres, rfl⟩ := h
    have HRES := Aside0.mk hres
    clear hv hc hres
    go_enter Try.func19, Try.ntmps19
    go_wp2_with (first | ((with_reducible refine gate_dst (N := 13) rfl ?_); (try (refine gate_guard (by rfl) ?_; dsimp only)); refine Kd.N_lit (Kd.slice 3 (Kd.int .i64)) _ 22 ?hg (N' := 13) ?hd (xs := ([l1, l2] : List (List Int))) (inner := [.slice A1 l1.length c1, .slice A2 l2.length c2]) (ok := (fun k_ => ((k_ < w.heap.size ∨ k_ < w.heap.size) ∨ w.heap.size ≤ k_))) (okp := (fun k_ => ((k_ < w.heap.size ∨ k_ < w.heap.size) ∨ w.heap.size ≤ k_))) ?hr ?hp (fun _ hk => hk) ((show ∀ k_, w.heap.size ≤ k_ → (fun k_ => ((k_ < w.heap.size ∨ k_ < w.heap.size) ∨ w.heap.size ≤ k_)) k_ from fun k_ hk => (.inr (Nat.le_trans (below_size (by repeat (first | (with_reducible first | exact HB.out | apply below_alloc | apply pw_below_drewN | apply below_drew1) | exact HB.out))) hk))) _ (Nat.le_refl _)) (Below.refl _ _) (Nat.le_refl _) (by simp) ?_; (case hd => rfl); (case hg => rfl); (case hr => first | (go_simp; done) | (go_simp; rfl)); (case hp => exact (Reps.one (show Kd.FK (Kd.slice 3 (Kd.int .i64)) _ _ l1 [.slice A1 l1.length c1] from (Kd.FK_slice_mk (Kd.V_reads' (Kd.V_mono (ok' := (fun k_ => ((k_ < w.heap.size ∨ k_ < w.heap.size) ∨ w.heap.size ≤ k_))) (HO1.out) (fun k_ hk => hk))).2.1 (Kd.V_F (Kd.V_mono (ok' := (fun k_ => ((k_ < w.heap.size ∨ k_ < w.heap.size) ∨ w.heap.size ≤ k_))) (HO1.out) (fun k_ hk => hk))))) (Reps.one (show Kd.FK (Kd.slice 3 (Kd.int .i64)) _ _ l2 [.slice A2 l2.length c2] from (Kd.FK_slice_mk (Kd.V_reads' (Kd.V_mono (ok' := (fun k_ => ((k_ < w.heap.size ∨ k_ < w.heap.size) ∨ w.heap.size ≤ k_))) (HO2.out) (fun k_ hk => hk))).2.1 (Kd.V_F (Kd.V_mono (ok' := (fun k_ => ((k_ < w.heap.size ∨ k_ < w.heap.size) ∨ w.heap.size ≤ k_))) (HO2.out) (fun k_ hk => hk))))) (Reps.none _ _)))); intro v1002 w10 ho11 hb hg_ hnew_; clear hg_ hnew_; rw [← HY.out] at ho11; have n2_ := Aside0.mk (Kd.N_lower ho11 (below_size (by repeat (first | (with_reducible first | exact HB.out | apply below_alloc | apply pw_below_drewN | apply below_drew1) | exact HB.out)))); have n3_ := Aside0.mk (below_step (by repeat (first | (with_reducible first | exact HB.out | apply below_alloc | apply pw_below_drewN | apply below_drew1) | exact HB.out)) hb); clear HO1 HO2; clear HB; have HOV := n2_; have HB := n3_; clear n2_ n3_; clear hb ho11; obtain ⟨Ao12, co12, eo12⟩ := Kd.N_slice HOV.out; subst eo12) | ((with_reducible refine gate_callee (f := 34) rfl ?_); refine goesL_ (some 14) rfl rfl Try.func34 (by kernel_rfl) rfl #[.int .i64 a0, .slice Ao12 y.length co12] rfl (by (try simp only [List.map_toArray, List.map_cons, List.map_nil]); first | done | rfl) ?_; (with_reducible refine (voices_circle_valid.calls k a0 _ _ y true _ ?side1 ?side2 HV.out).mono ?_); (case side1 => repeat (first | exact (Kd.N_reads' HOV.out).2.2 | (with_reducible refine Kd.C_alloc ?_ _) | (with_reducible refine Kd.C_drewN ?_ _) | (with_reducible refine Kd.C_drew ?_))); (case side2 => exact (Kd.N_reads' HOV.out).2.1); rintro e w' ⟨rfl, ⟨nd, rfl⟩⟩; refine ⟨_, rfl, ?_⟩))
    go_wp2_with fail
    refine (best_two HT.out (Kd.C_below HR1.out (by repeat (first | (with_reducible first | exact HB.out | apply below_alloc | apply pw_below_drewN | apply below_drew1) | exact HB.out))) HC1.out (Kd.C_below HR2.out (by repeat (first | (with_reducible first | exact HB.out | apply below_alloc | apply pw_below_drewN | apply below_drew1) | exact HB.out))) HC2.out).mono ?_
    rintro e w12 ⟨A9, c9, rfl, hr9, hn9, hb9⟩
    have n0_ := Aside0.mk (below_step (by repeat (first | (with_reducible first | exact HB.out | apply below_alloc | apply pw_below_drewN | apply below_drew1) | exact HB.out)) hb9)
    have HR9 := Aside0.mk (Kd.R_lower hr9 (below_size (by repeat (first | (with_reducible first | exact HB.out | apply below_alloc | apply pw_below_drewN | apply below_drew1) | exact HB.out))))
    clear HB
    have HB := n0_
    clear n0_ hr9 hn9 hb9
    go_wp2
    go_ret2
    exact ⟨_, by first | rfl | simp, by rw [← HRES.out]; exact HR9.out, HB.out⟩
  · rw [decide_eq_false hc] at hv
    rw [if_neg hc] at h
    have HV := Aside0.mk hv
    simp only [Option.some.injEq, Prod.mk.injEq] at h
    obtain ⟨rfl, rfl⟩ := h
    clear hv hc
    go_enter Try.func19, Try.ntmps19
    go_wp2_with (first | ((with_reducible refine gate_dst (N := 13) rfl ?_); (try (refine gate_guard (by rfl) ?_; dsimp only)); refine Kd.N_lit (Kd.slice 3 (Kd.int .i64)) _ 22 ?hg (N' := 13) ?hd (xs := ([l1, l2] : List (List Int))) (inner := [.slice A1 l1.length c1, .slice A2 l2.length c2]) (ok := (fun k_ => ((k_ < w.heap.size ∨ k_ < w.heap.size) ∨ w.heap.size ≤ k_))) (okp := (fun k_ => ((k_ < w.heap.size ∨ k_ < w.heap.size) ∨ w.heap.size ≤ k_))) ?hr ?hp (fun _ hk => hk) ((show ∀ k_, w.heap.size ≤ k_ → (fun k_ => ((k_ < w.heap.size ∨ k_ < w.heap.size) ∨ w.heap.size ≤ k_)) k_ from fun k_ hk => (.inr (Nat.le_trans (below_size (by repeat (first | (with_reducible first | exact HB.out | apply below_alloc | apply pw_below_drewN | apply below_drew1) | exact HB.out))) hk))) _ (Nat.le_refl _)) (Below.refl _ _) (Nat.le_refl _) (by simp) ?_; (case hd => rfl); (case hg => rfl); (case hr => first | (go_simp; done) | (go_simp; rfl)); (case hp => exact (Reps.one (show Kd.FK (Kd.slice 3 (Kd.int .i64)) _ _ l1 [.slice A1 l1.length c1] from (Kd.FK_slice_mk (Kd.V_reads' (Kd.V_mono (ok' := (fun k_ => ((k_ < w.heap.size ∨ k_ < w.heap.size) ∨ w.heap.size ≤ k_))) (HO1.out) (fun k_ hk => hk))).2.1 (Kd.V_F (Kd.V_mono (ok' := (fun k_ => ((k_ < w.heap.size ∨ k_ < w.heap.size) ∨ w.heap.size ≤ k_))) (HO1.out) (fun k_ hk => hk))))) (Reps.one (show Kd.FK (Kd.slice 3 (Kd.int .i64)) _ _ l2 [.slice A2 l2.length c2] from (Kd.FK_slice_mk (Kd.V_reads' (Kd.V_mono (ok' := (fun k_ => ((k_ < w.heap.size ∨ k_ < w.heap.size) ∨ w.heap.size ≤ k_))) (HO2.out) (fun k_ hk => hk))).2.1 (Kd.V_F (Kd.V_mono (ok' := (fun k_ => ((k_ < w.heap.size ∨ k_ < w.heap.size) ∨ w.heap.size ≤ k_))) (HO2.out) (fun k_ hk => hk))))) (Reps.none _ _)))); intro v1002 w10 ho11 hb hg_ hnew_; clear hg_ hnew_; rw [← HY.out] at ho11; have n2_ := Aside0.mk (Kd.N_lower ho11 (below_size (by repeat (first | (with_reducible first | exact HB.out | apply below_alloc | apply pw_below_drewN | apply below_drew1) | exact HB.out)))); have n3_ := Aside0.mk (below_step (by repeat (first | (with_reducible first | exact HB.out | apply below_alloc | apply pw_below_drewN | apply below_drew1) | exact HB.out)) hb); clear HO1 HO2; clear HB; have HOV := n2_; have HB := n3_; clear n2_ n3_; clear hb ho11; obtain ⟨Ao12, co12, eo12⟩ := Kd.N_slice HOV.out; subst eo12) | ((with_reducible refine gate_callee (f := 34) rfl ?_); refine goesL_ (some 14) rfl rfl Try.func34 (by kernel_rfl) rfl #[.int .i64 a0, .slice Ao12 y.length co12] rfl (by (try simp only [List.map_toArray, List.map_cons, List.map_nil]); first | done | rfl) ?_; (with_reducible refine (voices_circle_valid.calls k a0 _ _ y false _ ?side1 ?side2 HV.out).mono ?_); (case side1 => repeat (first | exact (Kd.N_reads' HOV.out).2.2 | (with_reducible refine Kd.C_alloc ?_ _) | (with_reducible refine Kd.C_drewN ?_ _) | (with_reducible refine Kd.C_drew ?_))); (case side2 => exact (Kd.N_reads' HOV.out).2.1); rintro e w' ⟨rfl, ⟨nd, rfl⟩⟩; refine ⟨_, rfl, ?_⟩))
    go_ret2
    exact ⟨_, by first | rfl | simp, Kd.R_nil _ _ _ _ _, (by repeat (first | (with_reducible first | exact HB.out | apply below_alloc | apply pw_below_drewN | apply below_drew1) | exact HB.out))⟩

end Go.Proofs.Ytdnjbjcfbdclfaa.P
namespace Go.Proofs.Ytdnjbjcfbdclfaa.P
open Go.RowKit Go.Proofs.YtdnjbjcfbdclfaaW.PrintWords Go.Proofs.YtdnjbjcfbdclfaaW.PrintLast Go.Proofs.YtdnjbjcfbdclfaaW.PrintMore
attribute [local go_sem] max2_int min2_int max_two min_two max_three min_three max_four min_four   -- for this text's walks alone
set_option linter.unusedVariables false
set_option linter.unusedSimpArgs false

/-! ### sackbutref06_mod: function 38 -/
def sackbutref06_mod.f (a0 : Int) (a1 : Int) : Option (Int) := if a1 = 0 then (none) else (some (Int.tmod (wrap64 ((Int.tmod a0 a1) + a1)) a1))
set_option maxHeartbeats 8000000 in
set_option maxRecDepth 100000 in
theorem sackbutref06_mod.calls (a0 : Int) (a1 : Int) (r : Int) (w : World) (h : sackbutref06_mod.f a0 a1 = some r) :
    Calls Try.prog 38 #[.int .i64 a0, .int .i64 a1] w fun e w' => e = .returned (.int .i64 r) ∧ Drawn0 w w' := by
  have H : (if a1 = 0 then (none) else (some (Int.tmod (wrap64 ((Int.tmod a0 a1) + a1)) a1))) = some r := h
  clear h
  by_cases c3 : a1 = 0
  · rw [if_pos c3] at H
    exact absurd H (by simp)
  · rw [if_neg c3] at H
    have c3b0 : (a1 == 0) = false := beq_eq_false_iff_ne.mpr c3
    have c3b1 : (a1 != 0) = true := bne_iff_ne.mpr c3
    obtain rfl := Option.some.inj H
    go_enter Try.func38, Try.ntmps38
    go_wp2
    go_ret
    exact ⟨by first | rfl | (simp; done) | (simp [*]; done), by repeat (first | exact Drawn0.refl _ | apply Drawn0.step)⟩

end Go.Proofs.Ytdnjbjcfbdclfaa.P
namespace Go.Proofs.Ytdnjbjcfbdclfaa.P
open Go.RowKit Go.Proofs.YtdnjbjcfbdclfaaW.PrintWords Go.Proofs.YtdnjbjcfbdclfaaW.PrintLast Go.Proofs.YtdnjbjcfbdclfaaW.PrintMore
attribute [local go_sem] max2_int min2_int max_two min_two max_three min_three max_four min_four   -- for this text's walks alone
set_option linter.unusedVariables false
set_option linter.unusedSimpArgs false

/-! ### sackbutref06_Move: function 45 -/
def sackbutref06_Move.f (a0 : Int) (a1 : Int) (a2 : Int) : Option (Int) := (sackbutref06_mod.f (wrap64 (a2 - a1)) a0).bind fun t1001 => (if (wrap64 (2 * t1001)) ≤ a0 then (some t1001) else (some (wrap64 (t1001 - a0))))
set_option maxHeartbeats 8000000 in
set_option maxRecDepth 100000 in
theorem sackbutref06_Move.calls (a0 : Int) (a1 : Int) (a2 : Int) (r : Int) (w : World) (h : sackbutref06_Move.f a0 a1 a2 = some r) :
    Calls Try.prog 45 #[.int .i64 a0, .int .i64 a1, .int .i64 a2] w fun e w' => e = .returned (.int .i64 r) ∧ Drawn0 w w' := by
  have H : ((sackbutref06_mod.f (wrap64 (a2 - a1)) a0).bind fun t1001 => (if (wrap64 (2 * t1001)) ≤ a0 then (some t1001) else (some (wrap64 (t1001 - a0))))) = some r := h
  clear h
  replace H := Option.bind_eq_some_iff.mp H
  obtain ⟨t1001, A40, H⟩ := H
  replace H : (if (wrap64 (2 * t1001)) ≤ a0 then (some t1001) else (some (wrap64 (t1001 - a0)))) = some r := H
  have A4 := Aside0.mk A40
  clear A40
  by_cases c5 : (wrap64 (2 * t1001)) ≤ a0
  · rw [if_pos c5] at H
    have c5b0 : decide ((wrap64 (2 * t1001)) ≤ a0) = true := decide_eq_true c5
    clear c5
    obtain rfl := Option.some.inj H
    go_enter Try.func45, Try.ntmps45
    go_wp2_with (first | ((with_reducible refine gate_callee (f := 38) rfl ?_); refine goesL_ (some 12) rfl rfl Try.func38 (by kernel_rfl) rfl #[.int .i64 (wrap64 (a2 - a1)), .int .i64 a0] rfl (by (try simp only [List.map_toArray, List.map_cons, List.map_nil]); first | done | rfl | (simp only [List.length_drop, List.length_take]; rfl)) ?_; (with_reducible refine (sackbutref06_mod.calls (wrap64 (a2 - a1)) a0 t1001 _ A4.out).mono ?_); rintro e w' ⟨rfl, ⟨nd, rfl⟩⟩; refine ⟨_, rfl, ?_⟩))
    go_ret
    exact ⟨by first | rfl | (simp; done) | (simp [*]; done), by repeat (first | exact Drawn0.refl _ | apply Drawn0.step)⟩
  · rw [if_neg c5] at H
    have c5b0 : decide ((wrap64 (2 * t1001)) ≤ a0) = false := decide_eq_false c5
    clear c5
    obtain rfl := Option.some.inj H
    go_enter Try.func45, Try.ntmps45
    go_wp2_with (first | ((with_reducible refine gate_callee (f := 38) rfl ?_); refine goesL_ (some 12) rfl rfl Try.func38 (by kernel_rfl) rfl #[.int .i64 (wrap64 (a2 - a1)), .int .i64 a0] rfl (by (try simp only [List.map_toArray, List.map_cons, List.map_nil]); first | done | rfl | (simp only [List.length_drop, List.length_take]; rfl)) ?_; (with_reducible refine (sackbutref06_mod.calls (wrap64 (a2 - a1)) a0 t1001 _ A4.out).mono ?_); rintro e w' ⟨rfl, ⟨nd, rfl⟩⟩; refine ⟨_, rfl, ?_⟩))
    go_ret
    exact ⟨by first | rfl | (simp; done) | (simp [*]; done), by repeat (first | exact Drawn0.refl _ | apply Drawn0.step)⟩

end Go.Proofs.Ytdnjbjcfbdclfaa.P
