/- A part of a proof that a law's Go function returns true for every input, laid by this session's program mp.py (which drives the kit's print). Conditions: as each theorem states them. -/
import Derived.Test.YtnjmiodnkjabgaaP0
import Derived.Test.YtnjmiodnkjabgaaQBase
namespace Go.Proofs.Ytnjmiodnkjabgaa.P
open Go.RowKit Go.Proofs.YtnjmiodnkjabgaaW.PrintWords Go.Proofs.YtnjmiodnkjabgaaW.PrintLast Go.Proofs.YtnjmiodnkjabgaaW.PrintMore
attribute [local go_sem] max2_int min2_int max_two min_two max_three min_three max_four min_four   -- for this text's walks alone
set_option linter.unusedVariables false
set_option linter.unusedSimpArgs false

/-! slices.IndexFunc and ContainsFunc at ints, whatever the predicate -/
def idxP (p : Int → Bool) (l : List Int) : Int := if l.any p then (l.findIdx p : Int) else -1
/-- Called with a number in any later world, the function value answers as p does; it only draws. -/
def GivesBool (g : Nat) (lb : Array Value) (p : Int → Bool) (w : World) : Prop :=
  ∀ (W : World) (x : Int), Below w.heap.size w W → Calls Try.prog g (#[.int .i64 x] ++ lb) W fun e w' => e = .returned (.bool (p x)) ∧ Drawn0 W w'
set_option maxHeartbeats 2000000 in
set_option maxRecDepth 100000 in
theorem IndexFunc_calls (p : Int → Bool) (g : Nat) (lb : Array Value) (eg : ∀ args w, (callFunc g args).run Try.prog w = .ok (.enter g args) w) (A0 : Option Addr) (c0 : Nat) (l0 : List Int) (w : World)
    (hr0 : Kd.C (Kd.int .i64) w A0 l0.length l0) (hp : GivesBool g lb p w) (hm : l0.length ≤ 9223372036854775807) :
    Calls Try.prog 25 #[.slice A0 l0.length c0, .func (.func g) #[] lb] w fun e w' => e = .returned (.int .i64 (idxP p l0)) ∧ Drawn0 w w' := by
  have HR := Aside0.mk hr0
  have hpAt : ∀ (x : Int) (q : Nat), Calls Try.prog g (#[.int .i64 x] ++ lb) (w.drewN q) fun e w' => e = .returned (.bool (p x)) ∧ Drawn0 (w.drewN q) w' := fun x q => hp _ x (pw_below_drewN (Below.refl _ w) q)
  have HP := Aside0.mk hpAt
  clear hp hpAt hr0
  go_enter Try.func25, Try.ntmps25
  go_wp2
  go_loopg [8] l0.length (fun gg s8 wr => ∃ (kk q : Nat), s8 = .int .i64 kk ∧ wr = w.drewN q ∧ Aside0 (kk + gg = l0.length) ∧ Aside0 ((l0.take kk).any p = false))
  case atStart => exact ⟨0, 0, rfl, rfl, ⟨by omega⟩, ⟨by simp⟩⟩
  case round =>
    obtain ⟨kk, q, rfl, rfl, HK, HA⟩ := hrel
    by_cases hlt : kk < l0.length
    · have hltz : (kk : Int) < (l0.length : Int) := by omega
      obtain ⟨ad, ead, hcell0⟩ := Kd.at_int HR.out (kk : Int) (by omega) hltz
      rw [rd_get hlt] at hcell0
      rw [Int.toNat_natCast] at hcell0
      cases ead
      generalize hy : l0[kk] = y at hcell0
      have Hy := Aside0.mk hy
      clear hy
      have hcall := HP.out y
      have hsplit : l0 = l0.take kk ++ y :: l0.drop (kk + 1) := by
        rw [← Hy.out]
        conv => lhs; rw [← List.take_append_drop kk l0]
        rw [List.drop_eq_getElem_cons hlt]
      have HS := Aside0.mk hsplit
      clear hsplit
      cases hq : p y with
      | true =>
        have Hq := Aside0.mk hq
        rw [hq] at hcall
        clear hq
        go_wp2_with (refine (hcall _).mono ?_; rintro e w' ⟨rfl, ⟨q', rfl⟩⟩)
        go_ret
        have h1 : l0.any p = true := by rw [HS.out]; simp [Hq.out]
        have h2 : l0.findIdx p = kk := by
          rw [HS.out, List.findIdx_append]
          have h3 : (l0.take kk).findIdx p = (l0.take kk).length := List.findIdx_eq_length.2 (fun x hx => by
            have := HA.out; rw [List.any_eq_false] at this; simpa using this x hx)
          have h4 : (l0.take kk).length = kk := by rw [List.length_take]; omega
          rw [h3, if_neg (by omega), List.findIdx_cons, Hq.out, h4]
          simp
        refine ⟨?_, ⟨_, rfl⟩⟩
        unfold idxP
        rw [h1, if_pos rfl, h2]; rfl
      | false =>
        have Hq := Aside0.mk hq
        rw [hq] at hcall
        clear hq
        go_wp2_with (refine (hcall _).mono ?_; rintro e w' ⟨rfl, ⟨q', rfl⟩⟩)
        go_roundg (gk - 1)
        case measure => have := HK.out; omega
        case rel =>
          refine ⟨kk + 1, _, by go_num, rfl, ⟨by have := HK.out; omega⟩, ⟨?_⟩⟩
          rw [List.take_succ_eq_append_getElem hlt, List.any_append, HA.out, Hy.out]
          simp [Hq.out]
    · have hltz : ¬ (kk : Int) < (l0.length : Int) := by omega
      have h0 : l0.any p = false := by
        have h := HA.out
        rwa [List.take_of_length_le (by omega)] at h
      have H0 := Aside0.mk h0
      clear h0
      go_wp2
      go_ret
      refine ⟨?_, ⟨_, rfl⟩⟩
      unfold idxP
      rw [H0.out, if_neg (by simp)]; rfl
set_option maxHeartbeats 1000000 in
theorem ContainsFunc_calls (p : Int → Bool) (g : Nat) (lb : Array Value) (eg : ∀ args w, (callFunc g args).run Try.prog w = .ok (.enter g args) w) (A0 : Option Addr) (c0 : Nat) (l0 : List Int) (w : World)
    (hr0 : Kd.C (Kd.int .i64) w A0 l0.length l0) (hp : GivesBool g lb p w) (hm : l0.length ≤ 9223372036854775807) :
    Calls Try.prog 21 #[.slice A0 l0.length c0, .func (.func g) #[] lb] w fun e w' => e = .returned (.bool (l0.any p)) ∧ Drawn0 w w' := by
  have HC := Aside0.mk (IndexFunc_calls p g lb eg A0 c0 l0 w hr0 hp hm)
  clear hp hr0
  go_enter Try.func21, Try.ntmps21
  cases hq : l0.any p with
  | true =>
    have Hq := Aside0.mk hq
    have hc := HC.out
    rw [show idxP p l0 = ((l0.findIdx p : Nat) : Int) by unfold idxP; rw [hq, if_pos rfl]] at hc
    have hpos : (0 : Int) ≤ ((l0.findIdx p : Nat) : Int) := by omega
    clear hq
    go_wp2_with (go_at_call 25; refine hc.mono ?_; rintro e w' ⟨rfl, ⟨q', rfl⟩⟩)
    go_ret
    exact ⟨by simp, ⟨_, rfl⟩⟩
  | false =>
    have Hq := Aside0.mk hq
    have hc := HC.out
    rw [show idxP p l0 = -1 by unfold idxP; rw [hq, if_neg (by simp)]] at hc
    clear hq
    go_wp2_with (go_at_call 25; refine hc.mono ?_; rintro e w' ⟨rfl, ⟨q', rfl⟩⟩)
    go_ret
    exact ⟨by simp, ⟨_, rfl⟩⟩

end Go.Proofs.Ytnjmiodnkjabgaa.P
