/- A part of a proof that a law's Go function returns true for every input, laid by this session's program mp.py (which drives the kit's print). Conditions: as each theorem states them. -/
import Derived.Laws.EntriesVeiled
import Derived.StillTailTactics
import Derived.Test.YtfjafmgaahfhgaaCVoicesImages1
import Derived.Test.YtfjafmgaahfhgaaCVoicesImages2
import Derived.Test.YtfjafmgaahfhgaaCVoicesImages3
namespace Go.Proofs.Ytfjafmgaahfhgaa.P
open Go.RowKit Go.Proofs.YtfjafmgaahfhgaaW.PrintWords Go.Proofs.YtfjafmgaahfhgaaW.PrintLast Go.Proofs.YtfjafmgaahfhgaaW.PrintMore
attribute [local go_sem] max2_int min2_int max_two min_two max_three min_three max_four min_four   -- for this text's walks alone
set_option linter.unusedVariables false
set_option linter.unusedSimpArgs false

/-! the document's tones in order -/
def insR (x : Int) : List Int → List Int
  | [] => [x]
  | y :: l => if y ≤ x then y :: insR x l else x :: y :: l
def risR (a : List Int) : List Int := a.foldl (fun o x => insR x o) []
theorem insR_at (x : Int) : ∀ (O : List Int) (j : Nat), j ≤ O.length → (∀ i, i < j → O.getD i 0 ≤ x) → (j < O.length → ¬ O.getD j 0 ≤ x) → insR x O = O.take j ++ x :: O.drop j
  | [], j, hj, _, _ => by
    have : j = 0 := by simpa using hj
    subst this; rfl
  | y :: O, 0, _, _, h => by
    unfold insR
    have := h (by simp)
    rw [if_neg (by simpa using this)]; rfl
  | y :: O, j + 1, hj, h1, h2 => by
    unfold insR
    rw [if_pos (by simpa using h1 0 (by omega)), insR_at x O j (by simpa using hj) (fun i hi => by simpa using h1 (i + 1) (by omega)) (fun hl => by simpa using h2 (by simpa using hl))]
    rfl
theorem insR_length (x : Int) : ∀ O : List Int, (insR x O).length = O.length + 1
  | [] => rfl
  | y :: O => by
    unfold insR
    split
    · rw [List.length_cons, insR_length x O, List.length_cons]
    · rfl
theorem risR_snoc (a : List Int) (x : Int) : risR (a ++ [x]) = insR x (risR a) := by unfold risR; rw [List.foldl_append]; rfl
theorem risR_length (a : List Int) : (risR a).length = a.length := by
  have h : ∀ (l o : List Int), (l.foldl (fun o x => insR x o) o).length = o.length + l.length := by
    intro l
    induction l with
    | nil => intro o; rfl
    | cons x l ih => intro o; rw [List.foldl_cons, ih, insR_length, List.length_cons]; omega
  have := h a []
  unfold risR
  rw [this]; simp
theorem C_upto {W : World} {A : Option Addr} {O : List Int} {j : Nat} (h : Kd.C (Kd.int .i64) W A O.length O) (hj : j ≤ O.length) : Kd.C (Kd.int .i64) W A j (O.take j) := by
  have := Kd.C_take h hj
  rwa [List.length_take, Nat.min_eq_left hj] at this
theorem C_from {W : World} {ad : Addr} {O : List Int} {j c : Nat} (h : Kd.C (Kd.int .i64) W (some ad) O.length O) (hj : j ≤ O.length) (hc : O.length ≤ c) : Kd.C (Kd.int .i64) W (if c = j then some ad else some (ad.add j)) (O.length - j) (O.drop j) := by
  have := Kd.C_drop h hj hc
  rw [List.length_drop] at this
  rw [show j * (Kd.int .i64).sz = j from Nat.mul_one j] at this
  exact this
theorem C_fromN {W : World} {O : List Int} {j : Nat} (h : Kd.C (Kd.int .i64) W none O.length O) (hj : j ≤ O.length) : Kd.C (Kd.int .i64) W none (O.length - j) (O.drop j) := by
  have h0 : O = [] := by
    cases O with
    | nil => rfl
    | cons y O => obtain ⟨ad, e, _⟩ := h.2.2 (by simp); cases e
  subst h0
  have : j = 0 := by simpa using hj
  subst this
  exact h
theorem R_only9 {e : Nat} {w : World} {base : Nat} {ok ok' : Nat → Prop} {v : Value} {xs : List Int} (h : Kd.R (Kd.int .i64) e w base ok v xs) (hok : ∀ k, v.ownBlock = some k → ok' k) : Kd.R (Kd.int .i64) e w base ok' v xs := by
  obtain ⟨_, inner, ho, hr⟩ := h
  exact ⟨hok, inner, ho, hr⟩
def sackbutref06_Rising.f (l1 : List Int) : Option (List Int) := if l1.length ≤ 1000 then some (risR l1) else none
set_option maxHeartbeats 8000000 in
set_option maxRecDepth 100000 in
theorem sackbutref06_Rising.calls (A1 : Option Addr) (c1 : Nat) (l1 : List Int) (r : List Int) (w : World) (hr1 : Kd.C (Kd.int .i64) w A1 l1.length l1) (hc1 : l1.length ≤ c1) (h : sackbutref06_Rising.f l1 = some r) :
    Calls Try.prog 15 #[.slice A1 l1.length c1] w fun e w' => ∃ v0_ : Value, e = .returned v0_ ∧ Kd.R (Kd.int .i64) 3 w' w.heap.size (fun _ => True) v0_ r ∧ Below w.heap.size w w' := by
  unfold sackbutref06_Rising.f at h
  by_cases hc : l1.length ≤ 1000
  · rw [if_pos hc] at h
    have hres := Option.some.inj h
    have HRES := Aside0.mk hres
    have HR1 := Aside0.mk hr1
    have HC1 := Aside0.mk hc1
    clear hr1 hc1 h hres
    go_enter Try.func15, Try.ntmps15
    go_wp2
    go_loopg [3, 9] l1.length (fun gg s3 s9 wr => ∃ (i : Nat) (A : Option Addr) (c : Nat), s9 = .int .i64 i ∧ s3 = .slice A (risR (l1.take i)).length c ∧ Aside0 (i + gg = l1.length) ∧ Aside0 (Kd.R (Kd.int .i64) 3 wr w.heap.size (fun _ => True) (.slice A (risR (l1.take i)).length c) (risR (l1.take i))) ∧ Aside0 (Below w.heap.size w wr))
    case atStart => exact ⟨0, none, 0, rfl, by simp [risR], ⟨by omega⟩, ⟨Kd.R_nil _ _ _ _ _⟩, ⟨Below.refl _ _⟩⟩
    case round =>
      obtain ⟨i, A, c, rfl, rfl, HI, HR, HB⟩ := hrel
      obtain ⟨wo, rfl⟩ : ∃ wo : World, wo = wr := ⟨wr, rfl⟩
      by_cases hlt : i < l1.length
      · have hltz : (i : Int) < (l1.length : Int) := by omega
        have hi0 : (0 : Int) ≤ (i : Int) := by omega
        obtain ⟨ad1, e1, hx1⟩ := Kd.at_int HR1.out i hi0 hltz
        cases e1
        replace hx1 := (HB.out.cell (World.block_lt_of_cell? w _ hx1)).trans hx1
        rw [Int.toNat_natCast] at hx1
        obtain ⟨x, hxx⟩ : ∃ x, rd l1 (i : Int) = x := ⟨_, rfl⟩
        rw [hxx] at hx1
        have HXX := Aside0.mk hxx
        clear hxx
        obtain ⟨O, hO⟩ : ∃ O, risR (l1.take i) = O := ⟨_, rfl⟩
        have HO := Aside0.mk hO
        have HLO := Aside0.mk (show O.length = i by rw [← hO, risR_length, List.length_take]; omega)
        rw [hO] at HR ⊢
        clear hO
        have HRC := Aside0.mk (Kd.R_reads' HR.out)
        have HTK := Aside0.mk (show l1.take (i + 1) = l1.take i ++ [x] by rw [List.take_add_one, List.getElem?_eq_getElem hlt, ← HXX.out, rd_nat, List.getD_eq_getElem?_getD, List.getElem?_eq_getElem hlt]; rfl)
        have hOl : O.length ≤ 1000 := by have := HLO.out; omega
        go_wp2
        obtain ⟨G, rfl⟩ : ∃ G, G = gk := ⟨gk, rfl⟩
        go_loopg [6] O.length (fun gg s6 wr => wr = wo ∧ ∃ (j : Nat), s6 = .int .i64 j ∧ Aside0 (j + gg = O.length) ∧ Aside0 (∀ i, i < j → O.getD i 0 ≤ x))
        case atStart => exact ⟨rfl, 0, rfl, ⟨by omega⟩, ⟨fun i hi => absurd hi (by omega)⟩⟩
        case round =>
          obtain ⟨rfl, j, rfl, HJ, HA⟩ := hrel
          by_cases hj : j < O.length
          · have hjz : (j : Int) < (O.length : Int) := by omega
            have hj0 : (0 : Int) ≤ (j : Int) := by omega
            obtain ⟨ad2, e2, hx2⟩ := Kd.at_int HRC.out.2.2 j hj0 hjz
            cases e2
            rw [Int.toNat_natCast, rd_nat] at hx2
            obtain ⟨y, hy⟩ : ∃ y, O.getD j 0 = y := ⟨_, rfl⟩
            rw [hy] at hx2
            have HY := Aside0.mk hy
            clear hy
            by_cases hyx : y ≤ x
            · have q1 : decide (y ≤ x) = true := decide_eq_true hyx
              clear hyx
              go_wp2
              go_roundg (gk - 1)
              case measure => have := HJ.out; omega
              case rel => exact ⟨rfl, j + 1, by go_num, ⟨by have := HJ.out; omega⟩, ⟨fun i hi => by
                rcases Nat.lt_or_ge i j with h | h
                · exact HA.out i h
                · have : i = j := by omega
                  subst this
                  rw [HY.out]; exact of_decide_eq_true q1⟩⟩
            · have q1 : decide (y ≤ x) = false := decide_eq_false hyx
              have HI9 := Aside0.mk (insR_at x O j (by have := HJ.out; omega) HA.out (fun _ => by rw [HY.out]; exact hyx))
              clear hyx
              go_wp2
              clear hx2
              have hjl : j ≤ O.length := by have := HJ.out; omega
              have hjc : j ≤ c := Nat.le_trans hjl HRC.out.2.1
              have HT1 : ∀ W', Below wr.heap.size wr W' → Kd.C (Kd.int .i64) W' (some ad2) j (O.take j) := fun W' hb => C_upto (Kd.C_below HRC.out.2.2 hb) hjl
              have HT2 : ∀ W', Below wr.heap.size wr W' → Kd.C (Kd.int .i64) W' (if c = j then some ad2 else some (ad2.add j)) (O.length - j) (O.drop j) := fun W' hb => C_from (Kd.C_below HRC.out.2.2 hb) hjl HRC.out.2.1
              have hbs : Below wr.heap.size wr wr.drew := below_drew (Below.refl _ _)
              refine start_ (n := 13) (S := fun _ => True) (ds := []) #[false, false, false, false, false, false, false, false, false, false, false, false, false] (by kernel_rfl) rfl rfl trivial (fun _ => ?_)
              refine pure_ (i := 1) (N := some 28) (v := ?_) (a' := ?_) #[false, true, false, false, false, false, false, false, false, false, false, false, false] rfl rfl (by kernel_rfl) (fun _ _ _ h => h) (Or.inl ⟨by rfl, ?_⟩) ?_ ?_
              rotate_left
              · intro w'
                go_simp
                with_reducible rfl
              rotate_left
              · simp only [Act.put, List.setIfInBounds_toArray, List.set_cons_zero, List.set_cons_succ, i64_w, i32_w]
                rfl
              refine pure_ (i := 2) (N := some 29) (v := ?_) (a' := ?_) #[false, true, true, false, false, false, false, false, false, false, false, false, false] rfl rfl (by kernel_rfl) (fun _ _ _ h => h) (Or.inl ⟨by rfl, ?_⟩) ?_ ?_
              rotate_left
              · intro w'
                go_simp
                with_reducible rfl
              rotate_left
              · simp only [Act.put, List.setIfInBounds_toArray, List.set_cons_zero, List.set_cons_succ, i64_w, i32_w]
                rfl
              refine pure_ (i := 3) (N := some 30) (v := ?_) (a' := ?_) #[false, true, true, true, false, false, false, false, false, false, false, false, false] rfl rfl (by kernel_rfl) (fun _ _ _ h => h) (Or.inl ⟨by rfl, ?_⟩) ?_ ?_
              rotate_left
              · intro w'
                go_simp
                with_reducible rfl
              rotate_left
              · simp only [Act.put, List.setIfInBounds_toArray, List.set_cons_zero, List.set_cons_succ, i64_w, i32_w]
                rfl
              refine pure_ (i := 5) (N := some 32) (v := ?_) (a' := ?_) #[false, true, true, true, false, true, false, false, false, false, false, false, false] rfl rfl (by kernel_rfl) (fun _ _ _ h => h) (Or.inl ⟨by rfl, ?_⟩) ?_ ?_
              rotate_left
              · intro w'
                go_simp
                with_reducible rfl
              rotate_left
              · simp only [Act.put, List.setIfInBounds_toArray, List.set_cons_zero, List.set_cons_succ, i64_w, i32_w]
                rfl
              refine pure_ (i := 8) (N := some 35) (v := ?_) (a' := ?_) #[false, true, true, true, false, true, false, false, true, false, false, false, false] rfl rfl (by kernel_rfl) (fun _ _ _ h => h) (Or.inl ⟨by rfl, ?_⟩) ?_ ?_
              rotate_left
              · intro w'
                go_simp
                with_reducible rfl
              rotate_left
              · simp only [Act.put, List.setIfInBounds_toArray, List.set_cons_zero, List.set_cons_succ, i64_w, i32_w]
                rfl
              refine pure_ (i := 9) (N := some 36) (v := ?_) (a' := ?_) #[false, true, true, true, false, true, false, false, true, true, false, false, false] rfl rfl (by kernel_rfl) (fun _ _ _ h => h) (Or.inl ⟨by rfl, ?_⟩) ?_ ?_
              rotate_left
              · intro w'
                go_simp
                with_reducible rfl
              rotate_left
              · simp only [Act.put, List.setIfInBounds_toArray, List.set_cons_zero, List.set_cons_succ, i64_w, i32_w]
                rfl
              refine pure_ (i := 10) (N := some 37) (v := ?_) (a' := ?_) #[false, true, true, true, false, true, false, false, true, true, true, false, false] rfl rfl (by kernel_rfl) (fun _ _ _ h => h) (Or.inl ⟨by rfl, ?_⟩) ?_ ?_
              rotate_left
              · intro w'
                go_simp
                with_reducible rfl
              rotate_left
              · simp only [Act.put, List.setIfInBounds_toArray, List.set_cons_zero, List.set_cons_succ, i64_w, i32_w]
                rfl
              refine join_ (σ := Value × Value × Option Addr × Nat) 3 #[true, true, true, true, true, true, true, false, true, true, true, false, false] (fun s => [(27, s.1), (31, s.2.1), (33, .slice s.2.2.1 1 s.2.2.2)]) (fun s w' => Kd.R (Kd.int .i64) 3 w' wr.heap.size (fun _ => True) s.2.1 (O.take j) ∧ Kd.C (Kd.int .i64) w' s.2.2.1 1 [x] ∧ Below wr.heap.size wr w') ?tail (fun hjoin => ?_)
              case tail =>
                rintro ⟨v27, v31, A33, c33⟩ w5 ⟨ho31, hC33, hb5⟩
                refine norm_ (a' := ?_) ?_ ?_
                rotate_left
                · simp only [putAll, Act.put, List.setIfInBounds_toArray, List.set_cons_zero, List.set_cons_succ]
                  rfl
                refine one_ (i := 7) (N := some 34) #[true, true, true, true, true, true, true, true, true, true, true, false, false] rfl rfl (by kernel_rfl) (by decide) (fun K hK => ?_)
                refine Kd.R_append_rows_step (Kd.int .i64) (w0 := wr) wr.heap.size (by rfl) (.tmp 31) (.tmp 33) 23 3 (.int .i64 0) 8 rfl Try.underlying23 info3 rfl (by decide) (by omega) v31 (O.take j) [x] A33 1 c33 (fun _ => True) (fun _ => False) rfl rfl ho31 hC33 (fun _ _ h => h) (fun _ h => h.elim) (fun _ _ => trivial) hb5 (below_size hb5) (by simp; omega) ?_
                rintro v34 w6 ho34 hb6 hg34 -
                refine hK.out _ _ trivial (fun _ => ?_)
                clear hK K
                refine norm_ (a' := ?_) ?_ ?_
                rotate_left
                · show Act.put _ (some 34) _ = _
                  simp only [Act.put, List.setIfInBounds_toArray, List.set_cons_zero, List.set_cons_succ, i64_w, i32_w]
                  rfl
                refine one_ (i := 11) (N := some 38) #[true, true, true, true, true, true, true, true, true, true, true, true, false] rfl rfl (by kernel_rfl) (by decide) (fun K hK => ?_)
                refine Kd.R_append_rows_step (Kd.int .i64) (w0 := wr) wr.heap.size (by rfl) (.tmp 34) (.tmp 37) 23 3 (.int .i64 0) 8 rfl Try.underlying23 info3 rfl (by decide) (by omega) v34 (O.take j ++ [x]) (O.drop j) (if c = j then some ad2 else some (ad2.add j)) (O.length - j) (c - j) (fun _ => True) (fun _ => False) rfl rfl ho34 (HT2 _ hb6) (fun _ _ h => h) (fun _ h => h.elim) (fun _ _ => trivial) hb6 (below_size hb6) (by simp; omega) ?_
                rintro v38 w7 ho38 hb7 hg38 -
                obtain ⟨A9, c9, rfl⟩ := Kd.R_slice ho38
                refine hK.out _ _ trivial (fun _ => ?_)
                clear hK K
                refine norm_ (a' := ?_) ?_ ?_
                rotate_left
                · show Act.put _ (some 38) _ = _
                  simp only [Act.put, List.setIfInBounds_toArray, List.set_cons_zero, List.set_cons_succ, i64_w, i32_w]
                  rfl
                refine pure_ (i := 12) (N := some 3) (v := ?_) (a' := ?_) #[true, true, true, true, true, true, true, true, true, true, true, true, true] rfl rfl (by kernel_rfl) (fun _ _ _ h => h) (Or.inl ⟨by rfl, ?_⟩) ?_ ?_
                rotate_left
                · intro w'
                  go_simp
                  with_reducible rfl
                rotate_left
                · simp only [Act.put, List.setIfInBounds_toArray, List.set_cons_zero, List.set_cons_succ, i64_w, i32_w]
                  rfl
                refine done_ (by kernel_rfl) ?_
                have HEQ := Aside0.mk (show O.take j ++ [x] ++ O.drop j = risR (l1.take (i + 1)) by rw [HTK.out, risR_snoc, HO.out, HI9.out]; simp)
                have HO38 := Aside0.mk ho38
                have HB7 := Aside0.mk hb7
                clear ho31 hC33 hb5 ho34 hb6 hg34 ho38 hb7 hg38 HT1 HT2
                obtain ⟨L9, hL9⟩ : ∃ L9, (O.take j ++ [x] ++ O.drop j).length = L9 := ⟨_, rfl⟩
                rw [hL9]
                have HL9 := Aside0.mk hL9
                clear hL9
                try (generalize (if c = j then some ad2 else some (ad2.add j)) = A77)
                go_wp2
                go_roundg (G - 1)
                case measure => have := HI.out; omega
                case rel => exact ⟨i + 1, A9, c9, by go_num, (by rw [← HEQ.out, HL9.out]; have h6 := HL9.out; simp only [List.length_append, List.length_take, List.length_drop, List.length_cons, List.length_nil] at h6; rw [show j + (O.length - j + 1) = L9 by omega]), ⟨by have := HI.out; omega⟩, ⟨by rw [← HEQ.out]; exact Kd.R_lower HO38.out (below_size HB.out)⟩, ⟨HB.out.trans (HB7.out.mono (below_size HB.out))⟩⟩
              refine two_ (i := 0) (j := 6) (Ni := some 27) (Nj := some 33) #[true, true, true, true, false, true, false, false, true, true, true, false, false] #[false, true, true, true, false, true, true, false, true, true, true, false, false] rfl rfl rfl rfl (by kernel_rfl) (by decide) (by decide) (fun K hK => ?_) (fun K hK => ?_)
              · skip
                refine Kd.R_lit_step (Kd.int .i64) (w0 := wr) wr.heap.size 3 (by rfl) (N := 27) rfl (xs := []) (inner := []) (ok := fun _ => True) (okp := fun _ => False) ?hr (Reps.none _ _) (fun _ h => h.elim) trivial hbs (below_size hbs) (by simp) ?_
                case hr => first | (go_simp; done) | (go_simp; rfl)
                rintro v27 w1 ho27 hb27 hg27 -
                refine hK.out _ _ trivial (fun _ => ?_)
                clear hK K
                refine norm_ (a' := ?_) ?_ ?_
                rotate_left
                · show Act.put _ (some 27) _ = _
                  simp only [Act.put, List.setIfInBounds_toArray, List.set_cons_zero, List.set_cons_succ, i64_w, i32_w]
                  rfl
                refine two_ (i := 4) (j := 6) (Ni := some 31) (Nj := some 33) #[true, true, true, true, true, true, false, false, true, true, true, false, false] #[true, true, true, true, false, true, true, false, true, true, true, false, false] rfl rfl rfl rfl (by kernel_rfl) (by decide) (by decide) (fun K hK => ?_) (fun K hK => ?_)
                · skip
                  refine Kd.R_append_rows_step (Kd.int .i64) (w0 := wr) wr.heap.size (by rfl) (.tmp 27) (.tmp 30) 23 3 (.int .i64 0) 8 rfl Try.underlying23 info3 rfl (by decide) (by omega) v27 [] (O.take j) (some ad2) j c (fun _ => True) (fun _ => False) rfl rfl ho27 (HT1 _ hb27) (fun _ _ h => h) (fun _ h => h.elim) (fun _ _ => trivial) hb27 (below_size hb27) (by simp; omega) ?_
                  rintro v31 w2 ho31 hb31 hg31 -
                  refine hK.out _ _ trivial (fun _ => ?_)
                  clear hK K
                  refine norm_ (a' := ?_) ?_ ?_
                  rotate_left
                  · show Act.put _ (some 31) _ = _
                    simp only [Act.put, List.setIfInBounds_toArray, List.set_cons_zero, List.set_cons_succ, i64_w, i32_w]
                    rfl
                  refine one_ (i := 6) (N := some 33) #[true, true, true, true, true, true, true, false, true, true, true, false, false] rfl rfl (by kernel_rfl) (by decide) (fun K hK => ?_)
                  refine Kd.R_lit_step (Kd.int .i64) (w0 := wr) wr.heap.size 3 (by rfl) (N := 33) rfl (xs := [x]) (inner := [.int .i64 x]) (ok := fun _ => True) (okp := fun _ => False) ?hr (Reps.one rfl (Reps.none _ _)) (fun _ h => h.elim) trivial hb31 (below_size hb31) (by simp) ?_
                  case hr => first | (go_simp; done) | (go_simp; rfl)
                  rintro v33 w3 ho33 hb33 hg33 ⟨b33, e33, l33⟩
                  obtain ⟨A33, c33, rfl⟩ := Kd.R_slice ho33
                  refine hK.out _ _ trivial (fun _ => ?_)
                  clear hK K
                  refine norm_ (a' := ?_) ?_ ?_
                  rotate_left
                  · show Act.put _ (some 33) _ = _
                    simp only [Act.put, List.setIfInBounds_toArray, List.set_cons_zero, List.set_cons_succ, i64_w, i32_w]
                    rfl
                  have ho31 := Kd.R_step ho31 (fun k _ hk => hg33.block k hk (fun e => by cases e))
                  exact norm_ (by simp only [putAll, Act.put, List.setIfInBounds_toArray, List.set_cons_zero, List.set_cons_succ]; rfl) (hjoin (v27, v31, A33, c33) w3 ⟨ho31, (Kd.R_reads' ho33).2.2, hb33⟩)
                · skip
                  refine Kd.R_lit_step (Kd.int .i64) (w0 := wr) wr.heap.size 3 (by rfl) (N := 33) rfl (xs := [x]) (inner := [.int .i64 x]) (ok := fun _ => True) (okp := fun _ => False) ?hr (Reps.one rfl (Reps.none _ _)) (fun _ h => h.elim) trivial hb27 (below_size hb27) (by simp) ?_
                  case hr => first | (go_simp; done) | (go_simp; rfl)
                  rintro v33 w2 ho33 hb33 hg33 ⟨b33, e33, l33⟩
                  obtain ⟨A33, c33, rfl⟩ := Kd.R_slice ho33
                  refine hK.out _ _ trivial (fun _ => ?_)
                  clear hK K
                  refine norm_ (a' := ?_) ?_ ?_
                  rotate_left
                  · show Act.put _ (some 33) _ = _
                    simp only [Act.put, List.setIfInBounds_toArray, List.set_cons_zero, List.set_cons_succ, i64_w, i32_w]
                    rfl
                  have l27 := Kd.R_lt ho27
                  have ho27 := Kd.R_step ho27 (fun k _ hk => hg33.block k hk (fun e => by cases e))
                  refine one_ (i := 4) (N := some 31) #[true, true, true, true, true, true, true, false, true, true, true, false, false] rfl rfl (by kernel_rfl) (by decide) (fun K hK => ?_)
                  refine Kd.R_append_rows_step (Kd.int .i64) (w0 := wr) wr.heap.size (by rfl) (.tmp 27) (.tmp 30) 23 3 (.int .i64 0) 8 rfl Try.underlying23 info3 rfl (by decide) (by omega) v27 [] (O.take j) (some ad2) j c (fun _ => True) (fun _ => False) rfl rfl ho27 (HT1 _ hb33) (fun _ _ h => h) (fun _ h => h.elim) (fun _ _ => trivial) hb33 (below_size hb33) (by simp; omega) ?_
                  rintro v31 w3 ho31 hb31 hg31 -
                  refine hK.out _ _ trivial (fun _ => ?_)
                  clear hK K
                  refine norm_ (a' := ?_) ?_ ?_
                  rotate_left
                  · show Act.put _ (some 31) _ = _
                    simp only [Act.put, List.setIfInBounds_toArray, List.set_cons_zero, List.set_cons_succ, i64_w, i32_w]
                    rfl
                  have ho33 := Kd.R_step (R_only9 ho33 (ok' := fun k => k = b33) (fun k hk => Option.some.inj (hk.symm.trans e33))) (fun k hk hk2 => hg31.block k hk2 (fun e => by have := l27 k e.symm; omega))
                  exact norm_ (by simp only [putAll, Act.put, List.setIfInBounds_toArray, List.set_cons_zero, List.set_cons_succ]; rfl) (hjoin (v27, v31, A33, c33) w3 ⟨ho31, (Kd.R_reads' ho33).2.2, hb31⟩)
              · skip
                refine Kd.R_lit_step (Kd.int .i64) (w0 := wr) wr.heap.size 3 (by rfl) (N := 33) rfl (xs := [x]) (inner := [.int .i64 x]) (ok := fun _ => True) (okp := fun _ => False) ?hr (Reps.one rfl (Reps.none _ _)) (fun _ h => h.elim) trivial hbs (below_size hbs) (by simp) ?_
                case hr => first | (go_simp; done) | (go_simp; rfl)
                rintro v33 w1 ho33 hb33 hg33 ⟨b33, e33, l33⟩
                obtain ⟨A33, c33, rfl⟩ := Kd.R_slice ho33
                refine hK.out _ _ trivial (fun _ => ?_)
                clear hK K
                refine norm_ (a' := ?_) ?_ ?_
                rotate_left
                · show Act.put _ (some 33) _ = _
                  simp only [Act.put, List.setIfInBounds_toArray, List.set_cons_zero, List.set_cons_succ, i64_w, i32_w]
                  rfl
                have l33 := Kd.R_lt ho33
                refine one_ (i := 0) (N := some 27) #[true, true, true, true, false, true, true, false, true, true, true, false, false] rfl rfl (by kernel_rfl) (by decide) (fun K hK => ?_)
                refine Kd.R_lit_step (Kd.int .i64) (w0 := wr) wr.heap.size 3 (by rfl) (N := 27) rfl (xs := []) (inner := []) (ok := fun _ => True) (okp := fun _ => False) ?hr (Reps.none _ _) (fun _ h => h.elim) trivial hb33 (below_size hb33) (by simp) ?_
                case hr => first | (go_simp; done) | (go_simp; rfl)
                rintro v27 w2 ho27 hb27 hg27 ⟨b27, e27, l27⟩
                refine hK.out _ _ trivial (fun _ => ?_)
                clear hK K
                refine norm_ (a' := ?_) ?_ ?_
                rotate_left
                · show Act.put _ (some 27) _ = _
                  simp only [Act.put, List.setIfInBounds_toArray, List.set_cons_zero, List.set_cons_succ, i64_w, i32_w]
                  rfl
                have ho33 := Kd.R_step ho33 (fun k _ hk => hg27.block k hk (fun e => by cases e))
                refine one_ (i := 4) (N := some 31) #[true, true, true, true, true, true, true, false, true, true, true, false, false] rfl rfl (by kernel_rfl) (by decide) (fun K hK => ?_)
                refine Kd.R_append_rows_step (Kd.int .i64) (w0 := wr) wr.heap.size (by rfl) (.tmp 27) (.tmp 30) 23 3 (.int .i64 0) 8 rfl Try.underlying23 info3 rfl (by decide) (by omega) v27 [] (O.take j) (some ad2) j c (fun _ => True) (fun _ => False) rfl rfl ho27 (HT1 _ hb27) (fun _ _ h => h) (fun _ h => h.elim) (fun _ _ => trivial) hb27 (below_size hb27) (by simp; omega) ?_
                rintro v31 w3 ho31 hb31 hg31 -
                refine hK.out _ _ trivial (fun _ => ?_)
                clear hK K
                refine norm_ (a' := ?_) ?_ ?_
                rotate_left
                · show Act.put _ (some 31) _ = _
                  simp only [Act.put, List.setIfInBounds_toArray, List.set_cons_zero, List.set_cons_succ, i64_w, i32_w]
                  rfl
                have ho33 := Kd.R_step (R_only9 ho33 (ok' := fun k => k = b33) (fun k hk => Option.some.inj (hk.symm.trans e33))) (fun k hk hk2 => hg31.block k hk2 (fun e => by have := l33 b33 e33; rw [e27] at e; injection e with e; omega))
                exact norm_ (by simp only [putAll, Act.put, List.setIfInBounds_toArray, List.set_cons_zero, List.set_cons_succ]; rfl) (hjoin (v27, v31, A33, c33) w3 ⟨ho31, (Kd.R_reads' ho33).2.2, hb31⟩)
          · have hjz : ¬ (j : Int) < (O.length : Int) := by omega
            have HI9 := Aside0.mk (insR_at x O j (by have := HJ.out; omega) HA.out (fun h => absurd h hj))
            have hjl : j ≤ O.length := by have := HJ.out; omega
            have hjc : j ≤ c := Nat.le_trans hjl HRC.out.2.1
            go_wp2
            cases A with
            | none =>
              have HT1 : ∀ W', Below wr.heap.size wr W' → Kd.C (Kd.int .i64) W' none j (O.take j) := fun W' hb => C_upto (Kd.C_below HRC.out.2.2 hb) hjl
              have HT2 : ∀ W', Below wr.heap.size wr W' → Kd.C (Kd.int .i64) W' none (O.length - j) (O.drop j) := fun W' hb => C_fromN (Kd.C_below HRC.out.2.2 hb) hjl
              have hbs : Below wr.heap.size wr wr.drew := below_drew (Below.refl _ _)
              refine start_ (n := 13) (S := fun _ => True) (ds := []) #[false, false, false, false, false, false, false, false, false, false, false, false, false] (by kernel_rfl) rfl rfl trivial (fun _ => ?_)
              refine pure_ (i := 1) (N := some 28) (v := ?_) (a' := ?_) #[false, true, false, false, false, false, false, false, false, false, false, false, false] rfl rfl (by kernel_rfl) (fun _ _ _ h => h) (Or.inl ⟨by rfl, ?_⟩) ?_ ?_
              rotate_left
              · intro w'
                go_simp
                with_reducible rfl
              rotate_left
              · simp only [Act.put, List.setIfInBounds_toArray, List.set_cons_zero, List.set_cons_succ, i64_w, i32_w]
                rfl
              refine pure_ (i := 2) (N := some 29) (v := ?_) (a' := ?_) #[false, true, true, false, false, false, false, false, false, false, false, false, false] rfl rfl (by kernel_rfl) (fun _ _ _ h => h) (Or.inl ⟨by rfl, ?_⟩) ?_ ?_
              rotate_left
              · intro w'
                go_simp
                with_reducible rfl
              rotate_left
              · simp only [Act.put, List.setIfInBounds_toArray, List.set_cons_zero, List.set_cons_succ, i64_w, i32_w]
                rfl
              refine pure_ (i := 3) (N := some 30) (v := ?_) (a' := ?_) #[false, true, true, true, false, false, false, false, false, false, false, false, false] rfl rfl (by kernel_rfl) (fun _ _ _ h => h) (Or.inl ⟨by rfl, ?_⟩) ?_ ?_
              rotate_left
              · intro w'
                go_simp
                with_reducible rfl
              rotate_left
              · simp only [Act.put, List.setIfInBounds_toArray, List.set_cons_zero, List.set_cons_succ, i64_w, i32_w]
                rfl
              refine pure_ (i := 5) (N := some 32) (v := ?_) (a' := ?_) #[false, true, true, true, false, true, false, false, false, false, false, false, false] rfl rfl (by kernel_rfl) (fun _ _ _ h => h) (Or.inl ⟨by rfl, ?_⟩) ?_ ?_
              rotate_left
              · intro w'
                go_simp
                with_reducible rfl
              rotate_left
              · simp only [Act.put, List.setIfInBounds_toArray, List.set_cons_zero, List.set_cons_succ, i64_w, i32_w]
                rfl
              refine pure_ (i := 8) (N := some 35) (v := ?_) (a' := ?_) #[false, true, true, true, false, true, false, false, true, false, false, false, false] rfl rfl (by kernel_rfl) (fun _ _ _ h => h) (Or.inl ⟨by rfl, ?_⟩) ?_ ?_
              rotate_left
              · intro w'
                go_simp
                with_reducible rfl
              rotate_left
              · simp only [Act.put, List.setIfInBounds_toArray, List.set_cons_zero, List.set_cons_succ, i64_w, i32_w]
                rfl
              refine pure_ (i := 9) (N := some 36) (v := ?_) (a' := ?_) #[false, true, true, true, false, true, false, false, true, true, false, false, false] rfl rfl (by kernel_rfl) (fun _ _ _ h => h) (Or.inl ⟨by rfl, ?_⟩) ?_ ?_
              rotate_left
              · intro w'
                go_simp
                with_reducible rfl
              rotate_left
              · simp only [Act.put, List.setIfInBounds_toArray, List.set_cons_zero, List.set_cons_succ, i64_w, i32_w]
                rfl
              refine pure_ (i := 10) (N := some 37) (v := ?_) (a' := ?_) #[false, true, true, true, false, true, false, false, true, true, true, false, false] rfl rfl (by kernel_rfl) (fun _ _ _ h => h) (Or.inl ⟨by rfl, ?_⟩) ?_ ?_
              rotate_left
              · intro w'
                go_simp
                with_reducible rfl
              rotate_left
              · simp only [Act.put, List.setIfInBounds_toArray, List.set_cons_zero, List.set_cons_succ, i64_w, i32_w]
                rfl
              refine join_ (σ := Value × Value × Option Addr × Nat) 3 #[true, true, true, true, true, true, true, false, true, true, true, false, false] (fun s => [(27, s.1), (31, s.2.1), (33, .slice s.2.2.1 1 s.2.2.2)]) (fun s w' => Kd.R (Kd.int .i64) 3 w' wr.heap.size (fun _ => True) s.2.1 (O.take j) ∧ Kd.C (Kd.int .i64) w' s.2.2.1 1 [x] ∧ Below wr.heap.size wr w') ?tail (fun hjoin => ?_)
              case tail =>
                rintro ⟨v27, v31, A33, c33⟩ w5 ⟨ho31, hC33, hb5⟩
                refine norm_ (a' := ?_) ?_ ?_
                rotate_left
                · simp only [putAll, Act.put, List.setIfInBounds_toArray, List.set_cons_zero, List.set_cons_succ]
                  rfl
                refine one_ (i := 7) (N := some 34) #[true, true, true, true, true, true, true, true, true, true, true, false, false] rfl rfl (by kernel_rfl) (by decide) (fun K hK => ?_)
                refine Kd.R_append_rows_step (Kd.int .i64) (w0 := wr) wr.heap.size (by rfl) (.tmp 31) (.tmp 33) 23 3 (.int .i64 0) 8 rfl Try.underlying23 info3 rfl (by decide) (by omega) v31 (O.take j) [x] A33 1 c33 (fun _ => True) (fun _ => False) rfl rfl ho31 hC33 (fun _ _ h => h) (fun _ h => h.elim) (fun _ _ => trivial) hb5 (below_size hb5) (by simp; omega) ?_
                rintro v34 w6 ho34 hb6 hg34 -
                refine hK.out _ _ trivial (fun _ => ?_)
                clear hK K
                refine norm_ (a' := ?_) ?_ ?_
                rotate_left
                · show Act.put _ (some 34) _ = _
                  simp only [Act.put, List.setIfInBounds_toArray, List.set_cons_zero, List.set_cons_succ, i64_w, i32_w]
                  rfl
                refine one_ (i := 11) (N := some 38) #[true, true, true, true, true, true, true, true, true, true, true, true, false] rfl rfl (by kernel_rfl) (by decide) (fun K hK => ?_)
                refine Kd.R_append_rows_step (Kd.int .i64) (w0 := wr) wr.heap.size (by rfl) (.tmp 34) (.tmp 37) 23 3 (.int .i64 0) 8 rfl Try.underlying23 info3 rfl (by decide) (by omega) v34 (O.take j ++ [x]) (O.drop j) none (O.length - j) (c - j) (fun _ => True) (fun _ => False) rfl rfl ho34 (HT2 _ hb6) (fun _ _ h => h) (fun _ h => h.elim) (fun _ _ => trivial) hb6 (below_size hb6) (by simp; omega) ?_
                rintro v38 w7 ho38 hb7 hg38 -
                obtain ⟨A9, c9, rfl⟩ := Kd.R_slice ho38
                refine hK.out _ _ trivial (fun _ => ?_)
                clear hK K
                refine norm_ (a' := ?_) ?_ ?_
                rotate_left
                · show Act.put _ (some 38) _ = _
                  simp only [Act.put, List.setIfInBounds_toArray, List.set_cons_zero, List.set_cons_succ, i64_w, i32_w]
                  rfl
                refine pure_ (i := 12) (N := some 3) (v := ?_) (a' := ?_) #[true, true, true, true, true, true, true, true, true, true, true, true, true] rfl rfl (by kernel_rfl) (fun _ _ _ h => h) (Or.inl ⟨by rfl, ?_⟩) ?_ ?_
                rotate_left
                · intro w'
                  go_simp
                  with_reducible rfl
                rotate_left
                · simp only [Act.put, List.setIfInBounds_toArray, List.set_cons_zero, List.set_cons_succ, i64_w, i32_w]
                  rfl
                refine done_ (by kernel_rfl) ?_
                have HEQ := Aside0.mk (show O.take j ++ [x] ++ O.drop j = risR (l1.take (i + 1)) by rw [HTK.out, risR_snoc, HO.out, HI9.out]; simp)
                have HO38 := Aside0.mk ho38
                have HB7 := Aside0.mk hb7
                clear ho31 hC33 hb5 ho34 hb6 hg34 ho38 hb7 hg38 HT1 HT2
                obtain ⟨L9, hL9⟩ : ∃ L9, (O.take j ++ [x] ++ O.drop j).length = L9 := ⟨_, rfl⟩
                rw [hL9]
                have HL9 := Aside0.mk hL9
                clear hL9
                try (generalize (if c = j then some ad2 else some (ad2.add j)) = A77)
                go_wp2
                go_roundg (G - 1)
                case measure => have := HI.out; omega
                case rel => exact ⟨i + 1, A9, c9, by go_num, (by rw [← HEQ.out, HL9.out]; have h6 := HL9.out; simp only [List.length_append, List.length_take, List.length_drop, List.length_cons, List.length_nil] at h6; rw [show j + (O.length - j + 1) = L9 by omega]), ⟨by have := HI.out; omega⟩, ⟨by rw [← HEQ.out]; exact Kd.R_lower HO38.out (below_size HB.out)⟩, ⟨HB.out.trans (HB7.out.mono (below_size HB.out))⟩⟩
              refine two_ (i := 0) (j := 6) (Ni := some 27) (Nj := some 33) #[true, true, true, true, false, true, false, false, true, true, true, false, false] #[false, true, true, true, false, true, true, false, true, true, true, false, false] rfl rfl rfl rfl (by kernel_rfl) (by decide) (by decide) (fun K hK => ?_) (fun K hK => ?_)
              · skip
                refine Kd.R_lit_step (Kd.int .i64) (w0 := wr) wr.heap.size 3 (by rfl) (N := 27) rfl (xs := []) (inner := []) (ok := fun _ => True) (okp := fun _ => False) ?hr (Reps.none _ _) (fun _ h => h.elim) trivial hbs (below_size hbs) (by simp) ?_
                case hr => first | (go_simp; done) | (go_simp; rfl)
                rintro v27 w1 ho27 hb27 hg27 -
                refine hK.out _ _ trivial (fun _ => ?_)
                clear hK K
                refine norm_ (a' := ?_) ?_ ?_
                rotate_left
                · show Act.put _ (some 27) _ = _
                  simp only [Act.put, List.setIfInBounds_toArray, List.set_cons_zero, List.set_cons_succ, i64_w, i32_w]
                  rfl
                refine two_ (i := 4) (j := 6) (Ni := some 31) (Nj := some 33) #[true, true, true, true, true, true, false, false, true, true, true, false, false] #[true, true, true, true, false, true, true, false, true, true, true, false, false] rfl rfl rfl rfl (by kernel_rfl) (by decide) (by decide) (fun K hK => ?_) (fun K hK => ?_)
                · skip
                  refine Kd.R_append_rows_step (Kd.int .i64) (w0 := wr) wr.heap.size (by rfl) (.tmp 27) (.tmp 30) 23 3 (.int .i64 0) 8 rfl Try.underlying23 info3 rfl (by decide) (by omega) v27 [] (O.take j) none j c (fun _ => True) (fun _ => False) rfl rfl ho27 (HT1 _ hb27) (fun _ _ h => h) (fun _ h => h.elim) (fun _ _ => trivial) hb27 (below_size hb27) (by simp; omega) ?_
                  rintro v31 w2 ho31 hb31 hg31 -
                  refine hK.out _ _ trivial (fun _ => ?_)
                  clear hK K
                  refine norm_ (a' := ?_) ?_ ?_
                  rotate_left
                  · show Act.put _ (some 31) _ = _
                    simp only [Act.put, List.setIfInBounds_toArray, List.set_cons_zero, List.set_cons_succ, i64_w, i32_w]
                    rfl
                  refine one_ (i := 6) (N := some 33) #[true, true, true, true, true, true, true, false, true, true, true, false, false] rfl rfl (by kernel_rfl) (by decide) (fun K hK => ?_)
                  refine Kd.R_lit_step (Kd.int .i64) (w0 := wr) wr.heap.size 3 (by rfl) (N := 33) rfl (xs := [x]) (inner := [.int .i64 x]) (ok := fun _ => True) (okp := fun _ => False) ?hr (Reps.one rfl (Reps.none _ _)) (fun _ h => h.elim) trivial hb31 (below_size hb31) (by simp) ?_
                  case hr => first | (go_simp; done) | (go_simp; rfl)
                  rintro v33 w3 ho33 hb33 hg33 ⟨b33, e33, l33⟩
                  obtain ⟨A33, c33, rfl⟩ := Kd.R_slice ho33
                  refine hK.out _ _ trivial (fun _ => ?_)
                  clear hK K
                  refine norm_ (a' := ?_) ?_ ?_
                  rotate_left
                  · show Act.put _ (some 33) _ = _
                    simp only [Act.put, List.setIfInBounds_toArray, List.set_cons_zero, List.set_cons_succ, i64_w, i32_w]
                    rfl
                  have ho31 := Kd.R_step ho31 (fun k _ hk => hg33.block k hk (fun e => by cases e))
                  exact norm_ (by simp only [putAll, Act.put, List.setIfInBounds_toArray, List.set_cons_zero, List.set_cons_succ]; rfl) (hjoin (v27, v31, A33, c33) w3 ⟨ho31, (Kd.R_reads' ho33).2.2, hb33⟩)
                · skip
                  refine Kd.R_lit_step (Kd.int .i64) (w0 := wr) wr.heap.size 3 (by rfl) (N := 33) rfl (xs := [x]) (inner := [.int .i64 x]) (ok := fun _ => True) (okp := fun _ => False) ?hr (Reps.one rfl (Reps.none _ _)) (fun _ h => h.elim) trivial hb27 (below_size hb27) (by simp) ?_
                  case hr => first | (go_simp; done) | (go_simp; rfl)
                  rintro v33 w2 ho33 hb33 hg33 ⟨b33, e33, l33⟩
                  obtain ⟨A33, c33, rfl⟩ := Kd.R_slice ho33
                  refine hK.out _ _ trivial (fun _ => ?_)
                  clear hK K
                  refine norm_ (a' := ?_) ?_ ?_
                  rotate_left
                  · show Act.put _ (some 33) _ = _
                    simp only [Act.put, List.setIfInBounds_toArray, List.set_cons_zero, List.set_cons_succ, i64_w, i32_w]
                    rfl
                  have l27 := Kd.R_lt ho27
                  have ho27 := Kd.R_step ho27 (fun k _ hk => hg33.block k hk (fun e => by cases e))
                  refine one_ (i := 4) (N := some 31) #[true, true, true, true, true, true, true, false, true, true, true, false, false] rfl rfl (by kernel_rfl) (by decide) (fun K hK => ?_)
                  refine Kd.R_append_rows_step (Kd.int .i64) (w0 := wr) wr.heap.size (by rfl) (.tmp 27) (.tmp 30) 23 3 (.int .i64 0) 8 rfl Try.underlying23 info3 rfl (by decide) (by omega) v27 [] (O.take j) none j c (fun _ => True) (fun _ => False) rfl rfl ho27 (HT1 _ hb33) (fun _ _ h => h) (fun _ h => h.elim) (fun _ _ => trivial) hb33 (below_size hb33) (by simp; omega) ?_
                  rintro v31 w3 ho31 hb31 hg31 -
                  refine hK.out _ _ trivial (fun _ => ?_)
                  clear hK K
                  refine norm_ (a' := ?_) ?_ ?_
                  rotate_left
                  · show Act.put _ (some 31) _ = _
                    simp only [Act.put, List.setIfInBounds_toArray, List.set_cons_zero, List.set_cons_succ, i64_w, i32_w]
                    rfl
                  have ho33 := Kd.R_step (R_only9 ho33 (ok' := fun k => k = b33) (fun k hk => Option.some.inj (hk.symm.trans e33))) (fun k hk hk2 => hg31.block k hk2 (fun e => by have := l27 k e.symm; omega))
                  exact norm_ (by simp only [putAll, Act.put, List.setIfInBounds_toArray, List.set_cons_zero, List.set_cons_succ]; rfl) (hjoin (v27, v31, A33, c33) w3 ⟨ho31, (Kd.R_reads' ho33).2.2, hb31⟩)
              · skip
                refine Kd.R_lit_step (Kd.int .i64) (w0 := wr) wr.heap.size 3 (by rfl) (N := 33) rfl (xs := [x]) (inner := [.int .i64 x]) (ok := fun _ => True) (okp := fun _ => False) ?hr (Reps.one rfl (Reps.none _ _)) (fun _ h => h.elim) trivial hbs (below_size hbs) (by simp) ?_
                case hr => first | (go_simp; done) | (go_simp; rfl)
                rintro v33 w1 ho33 hb33 hg33 ⟨b33, e33, l33⟩
                obtain ⟨A33, c33, rfl⟩ := Kd.R_slice ho33
                refine hK.out _ _ trivial (fun _ => ?_)
                clear hK K
                refine norm_ (a' := ?_) ?_ ?_
                rotate_left
                · show Act.put _ (some 33) _ = _
                  simp only [Act.put, List.setIfInBounds_toArray, List.set_cons_zero, List.set_cons_succ, i64_w, i32_w]
                  rfl
                have l33 := Kd.R_lt ho33
                refine one_ (i := 0) (N := some 27) #[true, true, true, true, false, true, true, false, true, true, true, false, false] rfl rfl (by kernel_rfl) (by decide) (fun K hK => ?_)
                refine Kd.R_lit_step (Kd.int .i64) (w0 := wr) wr.heap.size 3 (by rfl) (N := 27) rfl (xs := []) (inner := []) (ok := fun _ => True) (okp := fun _ => False) ?hr (Reps.none _ _) (fun _ h => h.elim) trivial hb33 (below_size hb33) (by simp) ?_
                case hr => first | (go_simp; done) | (go_simp; rfl)
                rintro v27 w2 ho27 hb27 hg27 ⟨b27, e27, l27⟩
                refine hK.out _ _ trivial (fun _ => ?_)
                clear hK K
                refine norm_ (a' := ?_) ?_ ?_
                rotate_left
                · show Act.put _ (some 27) _ = _
                  simp only [Act.put, List.setIfInBounds_toArray, List.set_cons_zero, List.set_cons_succ, i64_w, i32_w]
                  rfl
                have ho33 := Kd.R_step ho33 (fun k _ hk => hg27.block k hk (fun e => by cases e))
                refine one_ (i := 4) (N := some 31) #[true, true, true, true, true, true, true, false, true, true, true, false, false] rfl rfl (by kernel_rfl) (by decide) (fun K hK => ?_)
                refine Kd.R_append_rows_step (Kd.int .i64) (w0 := wr) wr.heap.size (by rfl) (.tmp 27) (.tmp 30) 23 3 (.int .i64 0) 8 rfl Try.underlying23 info3 rfl (by decide) (by omega) v27 [] (O.take j) none j c (fun _ => True) (fun _ => False) rfl rfl ho27 (HT1 _ hb27) (fun _ _ h => h) (fun _ h => h.elim) (fun _ _ => trivial) hb27 (below_size hb27) (by simp; omega) ?_
                rintro v31 w3 ho31 hb31 hg31 -
                refine hK.out _ _ trivial (fun _ => ?_)
                clear hK K
                refine norm_ (a' := ?_) ?_ ?_
                rotate_left
                · show Act.put _ (some 31) _ = _
                  simp only [Act.put, List.setIfInBounds_toArray, List.set_cons_zero, List.set_cons_succ, i64_w, i32_w]
                  rfl
                have ho33 := Kd.R_step (R_only9 ho33 (ok' := fun k => k = b33) (fun k hk => Option.some.inj (hk.symm.trans e33))) (fun k hk hk2 => hg31.block k hk2 (fun e => by have := l33 b33 e33; rw [e27] at e; injection e with e; omega))
                exact norm_ (by simp only [putAll, Act.put, List.setIfInBounds_toArray, List.set_cons_zero, List.set_cons_succ]; rfl) (hjoin (v27, v31, A33, c33) w3 ⟨ho31, (Kd.R_reads' ho33).2.2, hb31⟩)
            | some ad2 =>
              have HT1 : ∀ W', Below wr.heap.size wr W' → Kd.C (Kd.int .i64) W' (some ad2) j (O.take j) := fun W' hb => C_upto (Kd.C_below HRC.out.2.2 hb) hjl
              have HT2 : ∀ W', Below wr.heap.size wr W' → Kd.C (Kd.int .i64) W' (if c = j then some ad2 else some (ad2.add j)) (O.length - j) (O.drop j) := fun W' hb => C_from (Kd.C_below HRC.out.2.2 hb) hjl HRC.out.2.1
              have hbs : Below wr.heap.size wr wr.drew := below_drew (Below.refl _ _)
              refine start_ (n := 13) (S := fun _ => True) (ds := []) #[false, false, false, false, false, false, false, false, false, false, false, false, false] (by kernel_rfl) rfl rfl trivial (fun _ => ?_)
              refine pure_ (i := 1) (N := some 28) (v := ?_) (a' := ?_) #[false, true, false, false, false, false, false, false, false, false, false, false, false] rfl rfl (by kernel_rfl) (fun _ _ _ h => h) (Or.inl ⟨by rfl, ?_⟩) ?_ ?_
              rotate_left
              · intro w'
                go_simp
                with_reducible rfl
              rotate_left
              · simp only [Act.put, List.setIfInBounds_toArray, List.set_cons_zero, List.set_cons_succ, i64_w, i32_w]
                rfl
              refine pure_ (i := 2) (N := some 29) (v := ?_) (a' := ?_) #[false, true, true, false, false, false, false, false, false, false, false, false, false] rfl rfl (by kernel_rfl) (fun _ _ _ h => h) (Or.inl ⟨by rfl, ?_⟩) ?_ ?_
              rotate_left
              · intro w'
                go_simp
                with_reducible rfl
              rotate_left
              · simp only [Act.put, List.setIfInBounds_toArray, List.set_cons_zero, List.set_cons_succ, i64_w, i32_w]
                rfl
              refine pure_ (i := 3) (N := some 30) (v := ?_) (a' := ?_) #[false, true, true, true, false, false, false, false, false, false, false, false, false] rfl rfl (by kernel_rfl) (fun _ _ _ h => h) (Or.inl ⟨by rfl, ?_⟩) ?_ ?_
              rotate_left
              · intro w'
                go_simp
                with_reducible rfl
              rotate_left
              · simp only [Act.put, List.setIfInBounds_toArray, List.set_cons_zero, List.set_cons_succ, i64_w, i32_w]
                rfl
              refine pure_ (i := 5) (N := some 32) (v := ?_) (a' := ?_) #[false, true, true, true, false, true, false, false, false, false, false, false, false] rfl rfl (by kernel_rfl) (fun _ _ _ h => h) (Or.inl ⟨by rfl, ?_⟩) ?_ ?_
              rotate_left
              · intro w'
                go_simp
                with_reducible rfl
              rotate_left
              · simp only [Act.put, List.setIfInBounds_toArray, List.set_cons_zero, List.set_cons_succ, i64_w, i32_w]
                rfl
              refine pure_ (i := 8) (N := some 35) (v := ?_) (a' := ?_) #[false, true, true, true, false, true, false, false, true, false, false, false, false] rfl rfl (by kernel_rfl) (fun _ _ _ h => h) (Or.inl ⟨by rfl, ?_⟩) ?_ ?_
              rotate_left
              · intro w'
                go_simp
                with_reducible rfl
              rotate_left
              · simp only [Act.put, List.setIfInBounds_toArray, List.set_cons_zero, List.set_cons_succ, i64_w, i32_w]
                rfl
              refine pure_ (i := 9) (N := some 36) (v := ?_) (a' := ?_) #[false, true, true, true, false, true, false, false, true, true, false, false, false] rfl rfl (by kernel_rfl) (fun _ _ _ h => h) (Or.inl ⟨by rfl, ?_⟩) ?_ ?_
              rotate_left
              · intro w'
                go_simp
                with_reducible rfl
              rotate_left
              · simp only [Act.put, List.setIfInBounds_toArray, List.set_cons_zero, List.set_cons_succ, i64_w, i32_w]
                rfl
              refine pure_ (i := 10) (N := some 37) (v := ?_) (a' := ?_) #[false, true, true, true, false, true, false, false, true, true, true, false, false] rfl rfl (by kernel_rfl) (fun _ _ _ h => h) (Or.inl ⟨by rfl, ?_⟩) ?_ ?_
              rotate_left
              · intro w'
                go_simp
                with_reducible rfl
              rotate_left
              · simp only [Act.put, List.setIfInBounds_toArray, List.set_cons_zero, List.set_cons_succ, i64_w, i32_w]
                rfl
              refine join_ (σ := Value × Value × Option Addr × Nat) 3 #[true, true, true, true, true, true, true, false, true, true, true, false, false] (fun s => [(27, s.1), (31, s.2.1), (33, .slice s.2.2.1 1 s.2.2.2)]) (fun s w' => Kd.R (Kd.int .i64) 3 w' wr.heap.size (fun _ => True) s.2.1 (O.take j) ∧ Kd.C (Kd.int .i64) w' s.2.2.1 1 [x] ∧ Below wr.heap.size wr w') ?tail (fun hjoin => ?_)
              case tail =>
                rintro ⟨v27, v31, A33, c33⟩ w5 ⟨ho31, hC33, hb5⟩
                refine norm_ (a' := ?_) ?_ ?_
                rotate_left
                · simp only [putAll, Act.put, List.setIfInBounds_toArray, List.set_cons_zero, List.set_cons_succ]
                  rfl
                refine one_ (i := 7) (N := some 34) #[true, true, true, true, true, true, true, true, true, true, true, false, false] rfl rfl (by kernel_rfl) (by decide) (fun K hK => ?_)
                refine Kd.R_append_rows_step (Kd.int .i64) (w0 := wr) wr.heap.size (by rfl) (.tmp 31) (.tmp 33) 23 3 (.int .i64 0) 8 rfl Try.underlying23 info3 rfl (by decide) (by omega) v31 (O.take j) [x] A33 1 c33 (fun _ => True) (fun _ => False) rfl rfl ho31 hC33 (fun _ _ h => h) (fun _ h => h.elim) (fun _ _ => trivial) hb5 (below_size hb5) (by simp; omega) ?_
                rintro v34 w6 ho34 hb6 hg34 -
                refine hK.out _ _ trivial (fun _ => ?_)
                clear hK K
                refine norm_ (a' := ?_) ?_ ?_
                rotate_left
                · show Act.put _ (some 34) _ = _
                  simp only [Act.put, List.setIfInBounds_toArray, List.set_cons_zero, List.set_cons_succ, i64_w, i32_w]
                  rfl
                refine one_ (i := 11) (N := some 38) #[true, true, true, true, true, true, true, true, true, true, true, true, false] rfl rfl (by kernel_rfl) (by decide) (fun K hK => ?_)
                refine Kd.R_append_rows_step (Kd.int .i64) (w0 := wr) wr.heap.size (by rfl) (.tmp 34) (.tmp 37) 23 3 (.int .i64 0) 8 rfl Try.underlying23 info3 rfl (by decide) (by omega) v34 (O.take j ++ [x]) (O.drop j) (if c = j then some ad2 else some (ad2.add j)) (O.length - j) (c - j) (fun _ => True) (fun _ => False) rfl rfl ho34 (HT2 _ hb6) (fun _ _ h => h) (fun _ h => h.elim) (fun _ _ => trivial) hb6 (below_size hb6) (by simp; omega) ?_
                rintro v38 w7 ho38 hb7 hg38 -
                obtain ⟨A9, c9, rfl⟩ := Kd.R_slice ho38
                refine hK.out _ _ trivial (fun _ => ?_)
                clear hK K
                refine norm_ (a' := ?_) ?_ ?_
                rotate_left
                · show Act.put _ (some 38) _ = _
                  simp only [Act.put, List.setIfInBounds_toArray, List.set_cons_zero, List.set_cons_succ, i64_w, i32_w]
                  rfl
                refine pure_ (i := 12) (N := some 3) (v := ?_) (a' := ?_) #[true, true, true, true, true, true, true, true, true, true, true, true, true] rfl rfl (by kernel_rfl) (fun _ _ _ h => h) (Or.inl ⟨by rfl, ?_⟩) ?_ ?_
                rotate_left
                · intro w'
                  go_simp
                  with_reducible rfl
                rotate_left
                · simp only [Act.put, List.setIfInBounds_toArray, List.set_cons_zero, List.set_cons_succ, i64_w, i32_w]
                  rfl
                refine done_ (by kernel_rfl) ?_
                have HEQ := Aside0.mk (show O.take j ++ [x] ++ O.drop j = risR (l1.take (i + 1)) by rw [HTK.out, risR_snoc, HO.out, HI9.out]; simp)
                have HO38 := Aside0.mk ho38
                have HB7 := Aside0.mk hb7
                clear ho31 hC33 hb5 ho34 hb6 hg34 ho38 hb7 hg38 HT1 HT2
                obtain ⟨L9, hL9⟩ : ∃ L9, (O.take j ++ [x] ++ O.drop j).length = L9 := ⟨_, rfl⟩
                rw [hL9]
                have HL9 := Aside0.mk hL9
                clear hL9
                try (generalize (if c = j then some ad2 else some (ad2.add j)) = A77)
                go_wp2
                go_roundg (G - 1)
                case measure => have := HI.out; omega
                case rel => exact ⟨i + 1, A9, c9, by go_num, (by rw [← HEQ.out, HL9.out]; have h6 := HL9.out; simp only [List.length_append, List.length_take, List.length_drop, List.length_cons, List.length_nil] at h6; rw [show j + (O.length - j + 1) = L9 by omega]), ⟨by have := HI.out; omega⟩, ⟨by rw [← HEQ.out]; exact Kd.R_lower HO38.out (below_size HB.out)⟩, ⟨HB.out.trans (HB7.out.mono (below_size HB.out))⟩⟩
              refine two_ (i := 0) (j := 6) (Ni := some 27) (Nj := some 33) #[true, true, true, true, false, true, false, false, true, true, true, false, false] #[false, true, true, true, false, true, true, false, true, true, true, false, false] rfl rfl rfl rfl (by kernel_rfl) (by decide) (by decide) (fun K hK => ?_) (fun K hK => ?_)
              · skip
                refine Kd.R_lit_step (Kd.int .i64) (w0 := wr) wr.heap.size 3 (by rfl) (N := 27) rfl (xs := []) (inner := []) (ok := fun _ => True) (okp := fun _ => False) ?hr (Reps.none _ _) (fun _ h => h.elim) trivial hbs (below_size hbs) (by simp) ?_
                case hr => first | (go_simp; done) | (go_simp; rfl)
                rintro v27 w1 ho27 hb27 hg27 -
                refine hK.out _ _ trivial (fun _ => ?_)
                clear hK K
                refine norm_ (a' := ?_) ?_ ?_
                rotate_left
                · show Act.put _ (some 27) _ = _
                  simp only [Act.put, List.setIfInBounds_toArray, List.set_cons_zero, List.set_cons_succ, i64_w, i32_w]
                  rfl
                refine two_ (i := 4) (j := 6) (Ni := some 31) (Nj := some 33) #[true, true, true, true, true, true, false, false, true, true, true, false, false] #[true, true, true, true, false, true, true, false, true, true, true, false, false] rfl rfl rfl rfl (by kernel_rfl) (by decide) (by decide) (fun K hK => ?_) (fun K hK => ?_)
                · skip
                  refine Kd.R_append_rows_step (Kd.int .i64) (w0 := wr) wr.heap.size (by rfl) (.tmp 27) (.tmp 30) 23 3 (.int .i64 0) 8 rfl Try.underlying23 info3 rfl (by decide) (by omega) v27 [] (O.take j) (some ad2) j c (fun _ => True) (fun _ => False) rfl rfl ho27 (HT1 _ hb27) (fun _ _ h => h) (fun _ h => h.elim) (fun _ _ => trivial) hb27 (below_size hb27) (by simp; omega) ?_
                  rintro v31 w2 ho31 hb31 hg31 -
                  refine hK.out _ _ trivial (fun _ => ?_)
                  clear hK K
                  refine norm_ (a' := ?_) ?_ ?_
                  rotate_left
                  · show Act.put _ (some 31) _ = _
                    simp only [Act.put, List.setIfInBounds_toArray, List.set_cons_zero, List.set_cons_succ, i64_w, i32_w]
                    rfl
                  refine one_ (i := 6) (N := some 33) #[true, true, true, true, true, true, true, false, true, true, true, false, false] rfl rfl (by kernel_rfl) (by decide) (fun K hK => ?_)
                  refine Kd.R_lit_step (Kd.int .i64) (w0 := wr) wr.heap.size 3 (by rfl) (N := 33) rfl (xs := [x]) (inner := [.int .i64 x]) (ok := fun _ => True) (okp := fun _ => False) ?hr (Reps.one rfl (Reps.none _ _)) (fun _ h => h.elim) trivial hb31 (below_size hb31) (by simp) ?_
                  case hr => first | (go_simp; done) | (go_simp; rfl)
                  rintro v33 w3 ho33 hb33 hg33 ⟨b33, e33, l33⟩
                  obtain ⟨A33, c33, rfl⟩ := Kd.R_slice ho33
                  refine hK.out _ _ trivial (fun _ => ?_)
                  clear hK K
                  refine norm_ (a' := ?_) ?_ ?_
                  rotate_left
                  · show Act.put _ (some 33) _ = _
                    simp only [Act.put, List.setIfInBounds_toArray, List.set_cons_zero, List.set_cons_succ, i64_w, i32_w]
                    rfl
                  have ho31 := Kd.R_step ho31 (fun k _ hk => hg33.block k hk (fun e => by cases e))
                  exact norm_ (by simp only [putAll, Act.put, List.setIfInBounds_toArray, List.set_cons_zero, List.set_cons_succ]; rfl) (hjoin (v27, v31, A33, c33) w3 ⟨ho31, (Kd.R_reads' ho33).2.2, hb33⟩)
                · skip
                  refine Kd.R_lit_step (Kd.int .i64) (w0 := wr) wr.heap.size 3 (by rfl) (N := 33) rfl (xs := [x]) (inner := [.int .i64 x]) (ok := fun _ => True) (okp := fun _ => False) ?hr (Reps.one rfl (Reps.none _ _)) (fun _ h => h.elim) trivial hb27 (below_size hb27) (by simp) ?_
                  case hr => first | (go_simp; done) | (go_simp; rfl)
                  rintro v33 w2 ho33 hb33 hg33 ⟨b33, e33, l33⟩
                  obtain ⟨A33, c33, rfl⟩ := Kd.R_slice ho33
                  refine hK.out _ _ trivial (fun _ => ?_)
                  clear hK K
                  refine norm_ (a' := ?_) ?_ ?_
                  rotate_left
                  · show Act.put _ (some 33) _ = _
                    simp only [Act.put, List.setIfInBounds_toArray, List.set_cons_zero, List.set_cons_succ, i64_w, i32_w]
                    rfl
                  have l27 := Kd.R_lt ho27
                  have ho27 := Kd.R_step ho27 (fun k _ hk => hg33.block k hk (fun e => by cases e))
                  refine one_ (i := 4) (N := some 31) #[true, true, true, true, true, true, true, false, true, true, true, false, false] rfl rfl (by kernel_rfl) (by decide) (fun K hK => ?_)
                  refine Kd.R_append_rows_step (Kd.int .i64) (w0 := wr) wr.heap.size (by rfl) (.tmp 27) (.tmp 30) 23 3 (.int .i64 0) 8 rfl Try.underlying23 info3 rfl (by decide) (by omega) v27 [] (O.take j) (some ad2) j c (fun _ => True) (fun _ => False) rfl rfl ho27 (HT1 _ hb33) (fun _ _ h => h) (fun _ h => h.elim) (fun _ _ => trivial) hb33 (below_size hb33) (by simp; omega) ?_
                  rintro v31 w3 ho31 hb31 hg31 -
                  refine hK.out _ _ trivial (fun _ => ?_)
                  clear hK K
                  refine norm_ (a' := ?_) ?_ ?_
                  rotate_left
                  · show Act.put _ (some 31) _ = _
                    simp only [Act.put, List.setIfInBounds_toArray, List.set_cons_zero, List.set_cons_succ, i64_w, i32_w]
                    rfl
                  have ho33 := Kd.R_step (R_only9 ho33 (ok' := fun k => k = b33) (fun k hk => Option.some.inj (hk.symm.trans e33))) (fun k hk hk2 => hg31.block k hk2 (fun e => by have := l27 k e.symm; omega))
                  exact norm_ (by simp only [putAll, Act.put, List.setIfInBounds_toArray, List.set_cons_zero, List.set_cons_succ]; rfl) (hjoin (v27, v31, A33, c33) w3 ⟨ho31, (Kd.R_reads' ho33).2.2, hb31⟩)
              · skip
                refine Kd.R_lit_step (Kd.int .i64) (w0 := wr) wr.heap.size 3 (by rfl) (N := 33) rfl (xs := [x]) (inner := [.int .i64 x]) (ok := fun _ => True) (okp := fun _ => False) ?hr (Reps.one rfl (Reps.none _ _)) (fun _ h => h.elim) trivial hbs (below_size hbs) (by simp) ?_
                case hr => first | (go_simp; done) | (go_simp; rfl)
                rintro v33 w1 ho33 hb33 hg33 ⟨b33, e33, l33⟩
                obtain ⟨A33, c33, rfl⟩ := Kd.R_slice ho33
                refine hK.out _ _ trivial (fun _ => ?_)
                clear hK K
                refine norm_ (a' := ?_) ?_ ?_
                rotate_left
                · show Act.put _ (some 33) _ = _
                  simp only [Act.put, List.setIfInBounds_toArray, List.set_cons_zero, List.set_cons_succ, i64_w, i32_w]
                  rfl
                have l33 := Kd.R_lt ho33
                refine one_ (i := 0) (N := some 27) #[true, true, true, true, false, true, true, false, true, true, true, false, false] rfl rfl (by kernel_rfl) (by decide) (fun K hK => ?_)
                refine Kd.R_lit_step (Kd.int .i64) (w0 := wr) wr.heap.size 3 (by rfl) (N := 27) rfl (xs := []) (inner := []) (ok := fun _ => True) (okp := fun _ => False) ?hr (Reps.none _ _) (fun _ h => h.elim) trivial hb33 (below_size hb33) (by simp) ?_
                case hr => first | (go_simp; done) | (go_simp; rfl)
                rintro v27 w2 ho27 hb27 hg27 ⟨b27, e27, l27⟩
                refine hK.out _ _ trivial (fun _ => ?_)
                clear hK K
                refine norm_ (a' := ?_) ?_ ?_
                rotate_left
                · show Act.put _ (some 27) _ = _
                  simp only [Act.put, List.setIfInBounds_toArray, List.set_cons_zero, List.set_cons_succ, i64_w, i32_w]
                  rfl
                have ho33 := Kd.R_step ho33 (fun k _ hk => hg27.block k hk (fun e => by cases e))
                refine one_ (i := 4) (N := some 31) #[true, true, true, true, true, true, true, false, true, true, true, false, false] rfl rfl (by kernel_rfl) (by decide) (fun K hK => ?_)
                refine Kd.R_append_rows_step (Kd.int .i64) (w0 := wr) wr.heap.size (by rfl) (.tmp 27) (.tmp 30) 23 3 (.int .i64 0) 8 rfl Try.underlying23 info3 rfl (by decide) (by omega) v27 [] (O.take j) (some ad2) j c (fun _ => True) (fun _ => False) rfl rfl ho27 (HT1 _ hb27) (fun _ _ h => h) (fun _ h => h.elim) (fun _ _ => trivial) hb27 (below_size hb27) (by simp; omega) ?_
                rintro v31 w3 ho31 hb31 hg31 -
                refine hK.out _ _ trivial (fun _ => ?_)
                clear hK K
                refine norm_ (a' := ?_) ?_ ?_
                rotate_left
                · show Act.put _ (some 31) _ = _
                  simp only [Act.put, List.setIfInBounds_toArray, List.set_cons_zero, List.set_cons_succ, i64_w, i32_w]
                  rfl
                have ho33 := Kd.R_step (R_only9 ho33 (ok' := fun k => k = b33) (fun k hk => Option.some.inj (hk.symm.trans e33))) (fun k hk hk2 => hg31.block k hk2 (fun e => by have := l33 b33 e33; rw [e27] at e; injection e with e; omega))
                exact norm_ (by simp only [putAll, Act.put, List.setIfInBounds_toArray, List.set_cons_zero, List.set_cons_succ]; rfl) (hjoin (v27, v31, A33, c33) w3 ⟨ho31, (Kd.R_reads' ho33).2.2, hb31⟩)
      · have hil : i = l1.length := by have := HI.out; omega
        have HIL := Aside0.mk hil
        clear hil
        have hltz : ¬ (i : Int) < (l1.length : Int) := by omega
        have HEQ := Aside0.mk (show risR (l1.take i) = r by rw [HIL.out, List.take_length]; exact HRES.out)
        go_wp2
        go_ret
        refine ⟨_, rfl, ?_, HB.out⟩
        have h1 := HR.out
        rw [HEQ.out] at h1
        rw [HEQ.out]
        exact h1
  · rw [if_neg hc] at h; cases h

end Go.Proofs.Ytfjafmgaahfhgaa.P
namespace Go.Proofs.Ytfjafmgaahfhgaa.P
open Go.RowKit Go.Proofs.YtfjafmgaahfhgaaW.PrintWords Go.Proofs.YtfjafmgaahfhgaaW.PrintLast Go.Proofs.YtfjafmgaahfhgaaW.PrintMore
attribute [local go_sem] max2_int min2_int max_two min_two max_three min_three max_four min_four   -- for this text's walks alone
set_option linter.unusedVariables false
set_option linter.unusedSimpArgs false

/-! ### sackbutlaw06_awake: function 13 -/
def sackbutlaw06_awake.f  : Option (Bool) := (voices_Cost.f 12 (([0] : List Int)) (([11] : List Int))).bind fun bt1007 => (if bt1007.1 = 1 then (some (bt1007.2 == 0)) else (some false))
set_option maxHeartbeats 8000000 in
set_option maxRecDepth 100000 in
theorem sackbutlaw06_awake.calls  (r : Bool) (w : World) (h : sackbutlaw06_awake.f  = some r) :
    Calls Try.prog 13 #[] w fun e w' => e = .returned (.bool r) ∧ Below w.heap.size w w' := by
  have HB := Aside0.mk (Below.refl w.heap.size w)
  have H : ((voices_Cost.f 12 (([0] : List Int)) (([11] : List Int))).bind fun bt1007 => (if bt1007.1 = 1 then (some (bt1007.2 == 0)) else (some false))) = some r := h
  clear h
  obtain ⟨y1001, hy1001⟩ : ∃ y_ : List Int, y_ = (([0] : List Int)) := ⟨_, rfl⟩
  replace H : ((voices_Cost.f 12 y1001 (([11] : List Int))).bind fun bt1007 => (if bt1007.1 = 1 then (some (bt1007.2 == 0)) else (some false))) = some r := by first | (rw [hy1001]; with_reducible exact H) | (have H2_ := (Option.bind_some _ _).symm.trans H; rw [hy1001]; with_reducible exact H2_) | (have H2_ := (Option.bind_some _ _).symm.trans H; with_reducible exact H2_) | with_reducible exact H | (rw [hy1001]; exact H) | exact H
  have Ny1001 := Aside0.mk hy1001
  clear hy1001
  obtain ⟨y1004, hy1004⟩ : ∃ y_ : List Int, y_ = (([11] : List Int)) := ⟨_, rfl⟩
  replace H : ((voices_Cost.f 12 y1001 y1004).bind fun bt1007 => (if bt1007.1 = 1 then (some (bt1007.2 == 0)) else (some false))) = some r := by first | (rw [hy1004]; with_reducible exact H) | (have H2_ := (Option.bind_some _ _).symm.trans H; rw [hy1004]; with_reducible exact H2_) | (have H2_ := (Option.bind_some _ _).symm.trans H; with_reducible exact H2_) | with_reducible exact H | (rw [hy1004]; exact H) | exact H
  have Ny1004 := Aside0.mk hy1004
  clear hy1004
  replace H := Option.bind_eq_some_iff.mp H
  obtain ⟨⟨t1007, t1008⟩, A10, H⟩ := H
  replace H : (if t1007 = 1 then (some (t1008 == 0)) else (some false)) = some r := H
  have A1 := Aside0.mk A10
  clear A10
  by_cases c2 : t1007 = 1
  · rw [if_pos c2] at H
    have c2b0 : (t1007 == 1) = true := beq_iff_eq.mpr c2
    have c2b1 : (t1007 != 1) = false := bne_eq_false_iff_eq.mpr c2
    clear c2
    obtain rfl := Option.some.inj H
    go_enter Try.func13, Try.ntmps13
    go_wp2_with (first | ((with_reducible refine gate_dst (N := 4) rfl ?_); refine Kd.R_lit (Kd.int .i64) _ 3 ?hg (N := 4) ?hd (xs := ([0] : List Int)) (inner := [.int .i64 0]) (ok := fun _ => True) (okp := fun _ => True) ?hr ?hp (fun _ hk => hk) trivial (Below.refl _ _) (Nat.le_refl _) (by simp) ?_; (case hd => rfl); (case hg => rfl); (case hr => first | (go_simp; done) | (go_simp; rfl)); (case hp => exact (Reps.one (show Kd.M (Kd.int .i64) _ _ _ 0 [.int .i64 0] from rfl) (Reps.none _ _))); intro v1002 w3 ho4 hb hg_ hnew_; clear hg_ hnew_; (first | rw [← Ny1001.out] at ho4 | (simp only [Int.reduceToNat] at ho4; rw [← Ny1001.out] at ho4)); have n0_ := Aside0.mk (Kd.R_lower ho4 (below_size (by repeat (first | (with_reducible first | exact HB.out | apply below_alloc | apply pw_below_drewN | apply below_drew1) | exact HB.out)))); have n1_ := Aside0.mk (below_step (by repeat (first | (with_reducible first | exact HB.out | apply below_alloc | apply pw_below_drewN | apply below_drew1) | exact HB.out)) hb); clear HB; have HO1003 := n0_; have HB := n1_; clear n0_ n1_; clear hb ho4) | ((with_reducible refine gate_dst (N := 5) rfl ?_); refine Kd.R_lit (Kd.int .i64) _ 3 ?hg (N := 5) ?hd (xs := ([11] : List Int)) (inner := [.int .i64 11]) (ok := fun _ => True) (okp := fun _ => True) ?hr ?hp (fun _ hk => hk) trivial (Below.refl _ _) (Nat.le_refl _) (by simp) ?_; (case hd => rfl); (case hg => rfl); (case hr => first | (go_simp; done) | (go_simp; rfl)); (case hp => exact (Reps.one (show Kd.M (Kd.int .i64) _ _ _ 11 [.int .i64 11] from rfl) (Reps.none _ _))); intro v1005 w5 ho6 hb hg_ hnew_; clear hg_ hnew_; (first | rw [← Ny1004.out] at ho6 | (simp only [Int.reduceToNat] at ho6; rw [← Ny1004.out] at ho6)); have n0_ := Aside0.mk (Kd.R_elder' (by (with_reducible repeat (first | apply Kd.R_alloc | apply Kd.R_drewN | apply Kd.R_drew)); exact HO1003.out) (Kd.R_base ho6) hb); have n1_ := Aside0.mk (Kd.R_lower (Kd.R_new' ho6 (Kd.R_lt (by (with_reducible repeat (first | apply Kd.R_alloc | apply Kd.R_drewN | apply Kd.R_drew)); exact HO1003.out))) (below_size (by repeat (first | (with_reducible first | exact HB.out | apply below_alloc | apply pw_below_drewN | apply below_drew1) | exact HB.out)))); have n2_ := Aside0.mk (below_step (by repeat (first | (with_reducible first | exact HB.out | apply below_alloc | apply pw_below_drewN | apply below_drew1) | exact HB.out)) hb); clear HO1003; clear HB; have HO1003 := n0_; have HO1006 := n1_; have HB := n2_; clear n0_ n1_ n2_; clear hb ho6; obtain ⟨Ao7, co7, eo7⟩ := Kd.R_slice HO1003.out; subst eo7; obtain ⟨Ao8, co8, eo8⟩ := Kd.R_slice HO1006.out; subst eo8) | ((with_reducible refine gate_callee (f := 18) rfl ?_); refine goesL_ (some 6) rfl rfl Try.func18 (by kernel_rfl) rfl #[.int .i64 12, .slice Ao7 y1001.length co7, .slice Ao8 y1004.length co8] rfl (by (try simp only [List.map_toArray, List.map_cons, List.map_nil]); first | done | rfl | (simp only [List.length_drop, List.length_take]; rfl)) ?_; (with_reducible refine (voices_Cost.calls 12 _ _ y1001 _ _ y1004 t1007 t1008 _ ?side1 ?side2 ?side3 ?side4 A1.out).mono ?_); (case side1 => repeat (first | exact (Kd.R_reads' HO1003.out).2.2 | (with_reducible refine Kd.C_alloc ?_ _) | (with_reducible refine Kd.C_drewN ?_ _) | (with_reducible refine Kd.C_drew ?_))); (case side2 => exact (Kd.R_reads' HO1003.out).2.1); (case side3 => repeat (first | exact (Kd.R_reads' HO1006.out).2.2 | (with_reducible refine Kd.C_alloc ?_ _) | (with_reducible refine Kd.C_drewN ?_ _) | (with_reducible refine Kd.C_drew ?_))); (case side4 => exact (Kd.R_reads' HO1006.out).2.1); rintro e w9 ⟨rfl, hb⟩; refine ⟨_, rfl, ?_⟩; have n0_ := Aside0.mk (Kd.R_below (by (with_reducible repeat (first | apply Kd.R_alloc | apply Kd.R_drewN | apply Kd.R_drew)); exact HO1003.out) hb); have n1_ := Aside0.mk (Kd.R_below (by (with_reducible repeat (first | apply Kd.R_alloc | apply Kd.R_drewN | apply Kd.R_drew)); exact HO1006.out) hb); have n2_ := Aside0.mk (below_step (by repeat (first | (with_reducible first | exact HB.out | apply below_alloc | apply pw_below_drewN | apply below_drew1) | exact HB.out)) hb); clear HO1003; clear HO1006; clear HB; have HO1003 := n0_; have HO1006 := n1_; have HB := n2_; clear n0_ n1_ n2_; (try clear hb); (try clear hb2); (try clear hk); (try clear hi)))
    go_ret
    exact ⟨by first | rfl | (simp [errW_none, errW_some] <;> rfl) | (simp [*, errW_none, errW_some] <;> rfl), by repeat (first | (with_reducible first | exact HB.out | apply below_alloc | apply pw_below_drewN | apply below_drew1) | exact HB.out)⟩
  · rw [if_neg c2] at H
    have c2b0 : (t1007 == 1) = false := beq_eq_false_iff_ne.mpr c2
    have c2b1 : (t1007 != 1) = true := bne_iff_ne.mpr c2
    obtain rfl := Option.some.inj H
    go_enter Try.func13, Try.ntmps13
    go_wp2_with (first | ((with_reducible refine gate_dst (N := 4) rfl ?_); refine Kd.R_lit (Kd.int .i64) _ 3 ?hg (N := 4) ?hd (xs := ([0] : List Int)) (inner := [.int .i64 0]) (ok := fun _ => True) (okp := fun _ => True) ?hr ?hp (fun _ hk => hk) trivial (Below.refl _ _) (Nat.le_refl _) (by simp) ?_; (case hd => rfl); (case hg => rfl); (case hr => first | (go_simp; done) | (go_simp; rfl)); (case hp => exact (Reps.one (show Kd.M (Kd.int .i64) _ _ _ 0 [.int .i64 0] from rfl) (Reps.none _ _))); intro v1002 w10 ho11 hb hg_ hnew_; clear hg_ hnew_; (first | rw [← Ny1001.out] at ho11 | (simp only [Int.reduceToNat] at ho11; rw [← Ny1001.out] at ho11)); have n0_ := Aside0.mk (Kd.R_lower ho11 (below_size (by repeat (first | (with_reducible first | exact HB.out | apply below_alloc | apply pw_below_drewN | apply below_drew1) | exact HB.out)))); have n1_ := Aside0.mk (below_step (by repeat (first | (with_reducible first | exact HB.out | apply below_alloc | apply pw_below_drewN | apply below_drew1) | exact HB.out)) hb); clear HB; have HO1003 := n0_; have HB := n1_; clear n0_ n1_; clear hb ho11) | ((with_reducible refine gate_dst (N := 5) rfl ?_); refine Kd.R_lit (Kd.int .i64) _ 3 ?hg (N := 5) ?hd (xs := ([11] : List Int)) (inner := [.int .i64 11]) (ok := fun _ => True) (okp := fun _ => True) ?hr ?hp (fun _ hk => hk) trivial (Below.refl _ _) (Nat.le_refl _) (by simp) ?_; (case hd => rfl); (case hg => rfl); (case hr => first | (go_simp; done) | (go_simp; rfl)); (case hp => exact (Reps.one (show Kd.M (Kd.int .i64) _ _ _ 11 [.int .i64 11] from rfl) (Reps.none _ _))); intro v1005 w12 ho13 hb hg_ hnew_; clear hg_ hnew_; (first | rw [← Ny1004.out] at ho13 | (simp only [Int.reduceToNat] at ho13; rw [← Ny1004.out] at ho13)); have n0_ := Aside0.mk (Kd.R_elder' (by (with_reducible repeat (first | apply Kd.R_alloc | apply Kd.R_drewN | apply Kd.R_drew)); exact HO1003.out) (Kd.R_base ho13) hb); have n1_ := Aside0.mk (Kd.R_lower (Kd.R_new' ho13 (Kd.R_lt (by (with_reducible repeat (first | apply Kd.R_alloc | apply Kd.R_drewN | apply Kd.R_drew)); exact HO1003.out))) (below_size (by repeat (first | (with_reducible first | exact HB.out | apply below_alloc | apply pw_below_drewN | apply below_drew1) | exact HB.out)))); have n2_ := Aside0.mk (below_step (by repeat (first | (with_reducible first | exact HB.out | apply below_alloc | apply pw_below_drewN | apply below_drew1) | exact HB.out)) hb); clear HO1003; clear HB; have HO1003 := n0_; have HO1006 := n1_; have HB := n2_; clear n0_ n1_ n2_; clear hb ho13; obtain ⟨Ao14, co14, eo14⟩ := Kd.R_slice HO1003.out; subst eo14; obtain ⟨Ao15, co15, eo15⟩ := Kd.R_slice HO1006.out; subst eo15) | ((with_reducible refine gate_callee (f := 18) rfl ?_); refine goesL_ (some 6) rfl rfl Try.func18 (by kernel_rfl) rfl #[.int .i64 12, .slice Ao14 y1001.length co14, .slice Ao15 y1004.length co15] rfl (by (try simp only [List.map_toArray, List.map_cons, List.map_nil]); first | done | rfl | (simp only [List.length_drop, List.length_take]; rfl)) ?_; (with_reducible refine (voices_Cost.calls 12 _ _ y1001 _ _ y1004 t1007 t1008 _ ?side1 ?side2 ?side3 ?side4 A1.out).mono ?_); (case side1 => repeat (first | exact (Kd.R_reads' HO1003.out).2.2 | (with_reducible refine Kd.C_alloc ?_ _) | (with_reducible refine Kd.C_drewN ?_ _) | (with_reducible refine Kd.C_drew ?_))); (case side2 => exact (Kd.R_reads' HO1003.out).2.1); (case side3 => repeat (first | exact (Kd.R_reads' HO1006.out).2.2 | (with_reducible refine Kd.C_alloc ?_ _) | (with_reducible refine Kd.C_drewN ?_ _) | (with_reducible refine Kd.C_drew ?_))); (case side4 => exact (Kd.R_reads' HO1006.out).2.1); rintro e w16 ⟨rfl, hb⟩; refine ⟨_, rfl, ?_⟩; have n0_ := Aside0.mk (Kd.R_below (by (with_reducible repeat (first | apply Kd.R_alloc | apply Kd.R_drewN | apply Kd.R_drew)); exact HO1003.out) hb); have n1_ := Aside0.mk (Kd.R_below (by (with_reducible repeat (first | apply Kd.R_alloc | apply Kd.R_drewN | apply Kd.R_drew)); exact HO1006.out) hb); have n2_ := Aside0.mk (below_step (by repeat (first | (with_reducible first | exact HB.out | apply below_alloc | apply pw_below_drewN | apply below_drew1) | exact HB.out)) hb); clear HO1003; clear HO1006; clear HB; have HO1003 := n0_; have HO1006 := n1_; have HB := n2_; clear n0_ n1_ n2_; (try clear hb); (try clear hb2); (try clear hk); (try clear hi)))
    go_ret
    exact ⟨by first | rfl | (simp [errW_none, errW_some] <;> rfl) | (simp [*, errW_none, errW_some] <;> rfl), by repeat (first | (with_reducible first | exact HB.out | apply below_alloc | apply pw_below_drewN | apply below_drew1) | exact HB.out)⟩

end Go.Proofs.Ytfjafmgaahfhgaa.P
namespace Go.Proofs.Ytfjafmgaahfhgaa.P
open Go.RowKit Go.Proofs.YtfjafmgaahfhgaaW.PrintWords Go.Proofs.YtfjafmgaahfhgaaW.PrintLast Go.Proofs.YtfjafmgaahfhgaaW.PrintMore
attribute [local go_sem] max2_int min2_int max_two min_two max_three min_three max_four min_four   -- for this text's walks alone
set_option linter.unusedVariables false
set_option linter.unusedSimpArgs false

/-! ### slices_Equal_int_int: function 14 -/
def slices_Equal_int_int.l0 : Nat → List Int → List Int → Int → Int → Option (Bool)
  | 0, _, _, _, _ => none
  | k + 1, x0, x1, x12, x13 => if x13 < x12 then (if 0 ≤ x13 then (if x13 < (x0.length : Int) then (if x13 < (x1.length : Int) then (if (rd x0 x13) = (rd x1 x13) then (slices_Equal_int_int.l0 k x0 x1 x12 (wrap64 (x13 + 1))) else (some false)) else (none)) else (none)) else (none)) else (some true)
def slices_Equal_int_int.f (k : Nat) (l0 : List Int) (l1 : List Int) : Option (Bool) := if (l0.length : Int) = (l1.length : Int) then (slices_Equal_int_int.l0 k l0 l1 (l0.length : Int) 0) else (some false)
theorem slices_Equal_int_int.mono_l : ∀ k, (∀ y0 y1 y2 y3, LeO (slices_Equal_int_int.l0 k y0 y1 y2 y3) (slices_Equal_int_int.l0 (k + 1) y0 y1 y2 y3))
  | 0 => fun _ _ _ _ r h => by simp [slices_Equal_int_int.l0] at h
  | k + 1 => by
    have ih0 := slices_Equal_int_int.mono_l k
    · intro y0 y1 y2 y3
      unfold slices_Equal_int_int.l0
      repeat' first
      | (with_reducible exact ih0 _ _ _ _)
      | (with_reducible exact LeO.refl _)
      | (with_reducible exact LeO.none _)
      | (with_reducible refine LeO.ite ?_ ?_)
      | (with_reducible refine LeO.bind ?_ (fun _ => ?_))
      | exact ih0 _ _ _ _
      | exact LeO.none _
      | refine LeO.ite ?_ ?_
      | refine LeO.bind ?_ (fun _ => ?_)
theorem slices_Equal_int_int.mono : ∀ a0 a1 k, LeO (slices_Equal_int_int.f k a0 a1) (slices_Equal_int_int.f (k + 1) a0 a1) := by
  intro a0 a1 k
  have ih0 := slices_Equal_int_int.mono_l k
  unfold slices_Equal_int_int.f
  repeat' first
      | (with_reducible exact ih0 _ _ _ _)
      | (with_reducible exact LeO.refl _)
      | (with_reducible exact LeO.none _)
      | (with_reducible refine LeO.ite ?_ ?_)
      | (with_reducible refine LeO.bind ?_ (fun _ => ?_))
      | exact ih0 _ _ _ _
      | exact LeO.none _
      | refine LeO.ite ?_ ?_
      | refine LeO.bind ?_ (fun _ => ?_)
set_option maxHeartbeats 8000000 in
set_option maxRecDepth 100000 in
theorem slices_Equal_int_int.calls (k : Nat) (A0 : Option Addr) (c0 : Nat) (l0 : List Int) (A1 : Option Addr) (c1 : Nat) (l1 : List Int) (r : Bool) (w : World) (hr0 : Kd.C (Kd.int .i64) w A0 l0.length l0) (hc0 : l0.length ≤ c0) (hr1 : Kd.C (Kd.int .i64) w A1 l1.length l1) (hc1 : l1.length ≤ c1) (h : slices_Equal_int_int.f k l0 l1 = some r) :
    Calls Try.prog 14 #[.slice A0 l0.length c0, .slice A1 l1.length c1] w fun e w' => e = .returned (.bool r) ∧ Drawn0 w w' := by
  have HR0 := Aside0.mk hr0
  have HC0 := Aside0.mk hc0
  clear hr0 hc0
  have HR1 := Aside0.mk hr1
  have HC1 := Aside0.mk hc1
  clear hr1 hc1
  have H : (if (l0.length : Int) = (l1.length : Int) then (slices_Equal_int_int.l0 k l0 l1 (l0.length : Int) 0) else (some false)) = some r := h
  clear h
  by_cases c3 : (l0.length : Int) = (l1.length : Int)
  · rw [if_pos c3] at H
    have c3b0 : ((l0.length : Int) == (l1.length : Int)) = true := beq_iff_eq.mpr c3
    have c3b1 : ((l0.length : Int) != (l1.length : Int)) = false := bne_eq_false_iff_eq.mpr c3
    have c3b2 : (l0.length == l1.length) = true := by first | simpa using c3 | (simp at c3 ⊢; omega)
    clear c3
    have H' := Aside0.mk H
    clear H
    go_enter Try.func14, Try.ntmps14
    go_wp2
    repeat (go_quiet (fail); try go_wp2)
    go_loopg [13] k (fun kq v13 w' => ∃ (x13_1 : Int), v13 = .int .i64 x13_1 ∧ Aside0 (slices_Equal_int_int.l0 kq l0 l1 (l0.length : Int) x13_1 = some r) ∧ Aside0 (kq ≤ k) ∧ Drawn0 w w')
    case atStart => exact ⟨(0), (by first | rfl | (simp; done) | (simp [*]; done)), H', ⟨Nat.le_refl _⟩, by repeat (first | exact Drawn0.refl _ | apply Drawn0.step)⟩
    case round =>
      clear H'
      try clear c1
      try clear p2
      try clear c3
      try clear c3b0
      try clear c3b1
      try clear c3b2
      obtain ⟨x13_1, rfl, HA, HK1, ⟨m1, rfl⟩⟩ := hrel
      cases gk with
      | zero => exact absurd HA.out (by simp [slices_Equal_int_int.l0])
      | succ k1 =>
        have H := HA.out
        clear HA
        simp only [slices_Equal_int_int.l0] at H
        by_cases c4 : x13_1 < (l0.length : Int)
        · rw [if_pos c4] at H
          have c4b0 : decide (x13_1 < (l0.length : Int)) = true := decide_eq_true c4
          clear c4
          by_cases c5 : 0 ≤ x13_1
          · rw [if_pos c5] at H
            have c5b0 : decide (0 ≤ x13_1) = true := decide_eq_true c5
            clear c5
            by_cases c6 : x13_1 < (l0.length : Int)
            · rw [if_pos c6] at H
              have c6b0 : decide (x13_1 < (l0.length : Int)) = true := decide_eq_true c6
              clear c6
              by_cases c7 : x13_1 < (l1.length : Int)
              · rw [if_pos c7] at H
                have c7b0 : decide (x13_1 < (l1.length : Int)) = true := decide_eq_true c7
                clear c7
                by_cases c8 : (rd l0 x13_1) = (rd l1 x13_1)
                · rw [if_pos c8] at H
                  have c8b0 : ((rd l0 x13_1) == (rd l1 x13_1)) = true := beq_iff_eq.mpr c8
                  have c8b1 : ((rd l0 x13_1) != (rd l1 x13_1)) = false := bne_eq_false_iff_eq.mpr c8
                  clear c8
                  have H' := Aside0.mk H
                  clear H
                  have p1001 : 0 ≤ (x13_1 : Int) := of_decide_eq_true (by first | (with_reducible assumption) | assumption)
                  have q1001 : x13_1 < (l0.length : Int) := of_decide_eq_true (by first | (with_reducible assumption) | assumption)
                  obtain ⟨ad1001, e1001, hx1001_0⟩ := Kd.at_int HR0.out x13_1 p1001 q1001
                  cases e1001
                  replace p1001 := eq_true p1001
                  replace q1001 := eq_true q1001
                  have p1002 : 0 ≤ (x13_1 : Int) := of_decide_eq_true (by first | (with_reducible assumption) | assumption)
                  have q1002 : x13_1 < (l1.length : Int) := of_decide_eq_true (by first | (with_reducible assumption) | assumption)
                  obtain ⟨ad1002, e1002, hx1002_0⟩ := Kd.at_int HR1.out x13_1 p1002 q1002
                  cases e1002
                  replace p1002 := eq_true p1002
                  replace q1002 := eq_true q1002
                  go_wp2
                  repeat (go_quiet (fail); try go_wp2)
                  go_roundg k1
                  case measure => have := HK1.out; omega
                  case rel => exact ⟨(wrap64 (x13_1 + 1)), (by first | rfl | (simp; done) | (simp [*]; done)), H', ⟨by have := HK1.out; omega⟩, by repeat (first | exact Drawn0.refl _ | apply Drawn0.step)⟩
                · rw [if_neg c8] at H
                  have c8b0 : ((rd l0 x13_1) == (rd l1 x13_1)) = false := beq_eq_false_iff_ne.mpr c8
                  have c8b1 : ((rd l0 x13_1) != (rd l1 x13_1)) = true := bne_iff_ne.mpr c8
                  obtain rfl := Option.some.inj H
                  have p1001 : 0 ≤ (x13_1 : Int) := of_decide_eq_true (by first | (with_reducible assumption) | assumption)
                  have q1001 : x13_1 < (l0.length : Int) := of_decide_eq_true (by first | (with_reducible assumption) | assumption)
                  obtain ⟨ad1001, e1001, hx1001_0⟩ := Kd.at_int HR0.out x13_1 p1001 q1001
                  cases e1001
                  replace p1001 := eq_true p1001
                  replace q1001 := eq_true q1001
                  have p1002 : 0 ≤ (x13_1 : Int) := of_decide_eq_true (by first | (with_reducible assumption) | assumption)
                  have q1002 : x13_1 < (l1.length : Int) := of_decide_eq_true (by first | (with_reducible assumption) | assumption)
                  obtain ⟨ad1002, e1002, hx1002_0⟩ := Kd.at_int HR1.out x13_1 p1002 q1002
                  cases e1002
                  replace p1002 := eq_true p1002
                  replace q1002 := eq_true q1002
                  go_wp2
                  repeat (go_quiet (fail); try go_wp2)
                  go_ret
                  exact ⟨by first | rfl | (simp; done) | (simp [*]; done), by repeat (first | exact Drawn0.refl _ | apply Drawn0.step)⟩
              · rw [if_neg c7] at H
                exact absurd H (by simp)
            · rw [if_neg c6] at H
              exact absurd H (by simp)
          · rw [if_neg c5] at H
            exact absurd H (by simp)
        · rw [if_neg c4] at H
          have c4b0 : decide (x13_1 < (l0.length : Int)) = false := decide_eq_false c4
          clear c4
          obtain rfl := Option.some.inj H
          go_wp2
          repeat (go_quiet (fail); try go_wp2)
          go_ret
          exact ⟨by first | rfl | (simp; done) | (simp [*]; done), by repeat (first | exact Drawn0.refl _ | apply Drawn0.step)⟩
  · rw [if_neg c3] at H
    have c3b0 : ((l0.length : Int) == (l1.length : Int)) = false := beq_eq_false_iff_ne.mpr c3
    have c3b1 : ((l0.length : Int) != (l1.length : Int)) = true := bne_iff_ne.mpr c3
    have c3b2 : (l0.length == l1.length) = false := by first | simpa using c3 | (simp at c3 ⊢; omega)
    obtain rfl := Option.some.inj H
    go_enter Try.func14, Try.ntmps14
    go_wp2
    repeat (go_quiet (fail); try go_wp2)
    go_ret
    exact ⟨by first | rfl | (simp; done) | (simp [*]; done), by repeat (first | exact Drawn0.refl _ | apply Drawn0.step)⟩

end Go.Proofs.Ytfjafmgaahfhgaa.P
namespace Go.Proofs.Ytfjafmgaahfhgaa.P
open Go.RowKit Go.Proofs.YtfjafmgaahfhgaaW.PrintWords Go.Proofs.YtfjafmgaahfhgaaW.PrintLast Go.Proofs.YtfjafmgaahfhgaaW.PrintMore
attribute [local go_sem] max2_int min2_int max_two min_two max_three min_three max_four min_four   -- for this text's walks alone
set_option linter.unusedVariables false
set_option linter.unusedSimpArgs false

/-! ### cmp_Less_int: function 41 -/
def cmp_Less_int.f (a0 : Int) (a1 : Int) : Option (Bool) := (cmp_isNaN_int.f a0).bind fun t1001 => (if t1001 = true then ((cmp_isNaN_int.f a1).bind fun t1002 => (if t1002 = true then (some (decide (a0 < a1))) else (some true))) else (some (decide (a0 < a1))))
set_option maxHeartbeats 8000000 in
set_option maxRecDepth 100000 in
theorem cmp_Less_int.calls (a0 : Int) (a1 : Int) (r : Bool) (w : World) (h : cmp_Less_int.f a0 a1 = some r) :
    Calls Try.prog 41 #[.int .i64 a0, .int .i64 a1] w fun e w' => e = .returned (.bool r) ∧ Drawn0 w w' := by
  have H : ((cmp_isNaN_int.f a0).bind fun t1001 => (if t1001 = true then ((cmp_isNaN_int.f a1).bind fun t1002 => (if t1002 = true then (some (decide (a0 < a1))) else (some true))) else (some (decide (a0 < a1))))) = some r := h
  clear h
  replace H := Option.bind_eq_some_iff.mp H
  obtain ⟨t1001, A30, H⟩ := H
  replace H : (if t1001 = true then ((cmp_isNaN_int.f a1).bind fun t1002 => (if t1002 = true then (some (decide (a0 < a1))) else (some true))) else (some (decide (a0 < a1)))) = some r := H
  have A3 := Aside0.mk A30
  clear A30
  by_cases c4 : t1001 = true
  · subst c4
    have H1 : ((cmp_isNaN_int.f a1).bind fun t1002 => (if t1002 = true then (some (decide (a0 < a1))) else (some true))) = some r := by rw [if_pos rfl] at H; exact H
    clear H
    have H := H1
    clear H1
    replace H := Option.bind_eq_some_iff.mp H
    obtain ⟨t1002, A50, H⟩ := H
    replace H : (if t1002 = true then (some (decide (a0 < a1))) else (some true)) = some r := H
    have A5 := Aside0.mk A50
    clear A50
    by_cases c6 : t1002 = true
    · subst c6
      have H1 : (some (decide (a0 < a1))) = some r := by rw [if_pos rfl] at H; exact H
      clear H
      have H := H1
      clear H1
      obtain rfl := Option.some.inj H
      go_enter Try.func41, Try.ntmps41
      go_wp2_with (first | ((with_reducible refine gate_callee (f := 64) rfl ?_); refine goesL_ (some 6) rfl rfl Try.func64 (by kernel_rfl) rfl #[.int .i64 a0] rfl (by (try simp only [List.map_toArray, List.map_cons, List.map_nil]); first | done | rfl | (simp only [List.length_drop, List.length_take]; rfl)) ?_; (with_reducible refine (cmp_isNaN_int.calls a0 true _ A3.out).mono ?_); rintro e w' ⟨rfl, ⟨nd, rfl⟩⟩; refine ⟨_, rfl, ?_⟩) | (go_at_call 64; (with_reducible refine (cmp_isNaN_int.calls a1 true _ A5.out).mono ?_); rintro e w' ⟨rfl, ⟨nd, rfl⟩⟩))
      go_ret
      exact ⟨by first | rfl | (simp; done) | (simp [*]; done), by repeat (first | exact Drawn0.refl _ | apply Drawn0.step)⟩
    · replace c6 := Bool.eq_false_iff.mpr c6
      subst c6
      have H1 : (some true) = some r := by rw [if_neg (show ¬ (false = true) by decide)] at H; exact H
      clear H
      have H := H1
      clear H1
      obtain rfl := Option.some.inj H
      go_enter Try.func41, Try.ntmps41
      go_wp2_with (first | ((with_reducible refine gate_callee (f := 64) rfl ?_); refine goesL_ (some 6) rfl rfl Try.func64 (by kernel_rfl) rfl #[.int .i64 a0] rfl (by (try simp only [List.map_toArray, List.map_cons, List.map_nil]); first | done | rfl | (simp only [List.length_drop, List.length_take]; rfl)) ?_; (with_reducible refine (cmp_isNaN_int.calls a0 true _ A3.out).mono ?_); rintro e w' ⟨rfl, ⟨nd, rfl⟩⟩; refine ⟨_, rfl, ?_⟩) | (go_at_call 64; (with_reducible refine (cmp_isNaN_int.calls a1 false _ A5.out).mono ?_); rintro e w' ⟨rfl, ⟨nd, rfl⟩⟩))
      go_ret
      exact ⟨by first | rfl | (simp; done) | (simp [*]; done), by repeat (first | exact Drawn0.refl _ | apply Drawn0.step)⟩
  · replace c4 := Bool.eq_false_iff.mpr c4
    subst c4
    have H1 : (some (decide (a0 < a1))) = some r := by rw [if_neg (show ¬ (false = true) by decide)] at H; exact H
    clear H
    have H := H1
    clear H1
    obtain rfl := Option.some.inj H
    go_enter Try.func41, Try.ntmps41
    go_wp2_with (first | ((with_reducible refine gate_callee (f := 64) rfl ?_); refine goesL_ (some 6) rfl rfl Try.func64 (by kernel_rfl) rfl #[.int .i64 a0] rfl (by (try simp only [List.map_toArray, List.map_cons, List.map_nil]); first | done | rfl | (simp only [List.length_drop, List.length_take]; rfl)) ?_; (with_reducible refine (cmp_isNaN_int.calls a0 false _ A3.out).mono ?_); rintro e w' ⟨rfl, ⟨nd, rfl⟩⟩; refine ⟨_, rfl, ?_⟩))
    go_ret
    exact ⟨by first | rfl | (simp; done) | (simp [*]; done), by repeat (first | exact Drawn0.refl _ | apply Drawn0.step)⟩

end Go.Proofs.Ytfjafmgaahfhgaa.P
namespace Go.Proofs.Ytfjafmgaahfhgaa.P
open Go.RowKit Go.Proofs.YtfjafmgaahfhgaaW.PrintWords Go.Proofs.YtfjafmgaahfhgaaW.PrintLast Go.Proofs.YtfjafmgaahfhgaaW.PrintMore
attribute [local go_sem] max2_int min2_int max_two min_two max_three min_three max_four min_four   -- for this text's walks alone
set_option linter.unusedVariables false
set_option linter.unusedSimpArgs false

/-! ### slices_IsSorted_int_int: function 17 -/
def slices_IsSorted_int_int.l0 : Nat → List Int → Int → Option (Bool)
  | 0, _, _ => none
  | k + 1, x0, x3 => if x3 > 0 then (if 0 ≤ x3 then (if x3 < (x0.length : Int) then (if 0 ≤ (wrap64 (x3 - 1)) then (if (wrap64 (x3 - 1)) < (x0.length : Int) then ((cmp_Less_int.f (rd x0 x3) (rd x0 (wrap64 (x3 - 1)))).bind fun t1003 => (if t1003 = true then (some false) else (slices_IsSorted_int_int.l0 k x0 (wrap64 (x3 - 1))))) else (none)) else (none)) else (none)) else (none)) else (some true)
def slices_IsSorted_int_int.f (k : Nat) (l0 : List Int) : Option (Bool) := slices_IsSorted_int_int.l0 k l0 (wrap64 ((l0.length : Int) - 1))
theorem slices_IsSorted_int_int.mono_l : ∀ k, (∀ y0 y1, LeO (slices_IsSorted_int_int.l0 k y0 y1) (slices_IsSorted_int_int.l0 (k + 1) y0 y1))
  | 0 => fun _ _ r h => by simp [slices_IsSorted_int_int.l0] at h
  | k + 1 => by
    have ih0 := slices_IsSorted_int_int.mono_l k
    · intro y0 y1
      unfold slices_IsSorted_int_int.l0
      repeat' first
      | (with_reducible exact ih0 _ _)
      | (with_reducible exact LeO.refl _)
      | (with_reducible exact LeO.none _)
      | (with_reducible refine LeO.ite ?_ ?_)
      | (with_reducible refine LeO.bind ?_ (fun _ => ?_))
      | exact ih0 _ _
      | exact LeO.none _
      | refine LeO.ite ?_ ?_
      | refine LeO.bind ?_ (fun _ => ?_)
theorem slices_IsSorted_int_int.mono : ∀ a0 k, LeO (slices_IsSorted_int_int.f k a0) (slices_IsSorted_int_int.f (k + 1) a0) := by
  intro a0 k
  have ih0 := slices_IsSorted_int_int.mono_l k
  unfold slices_IsSorted_int_int.f
  repeat' first
      | (with_reducible exact ih0 _ _)
      | (with_reducible exact LeO.refl _)
      | (with_reducible exact LeO.none _)
      | (with_reducible refine LeO.ite ?_ ?_)
      | (with_reducible refine LeO.bind ?_ (fun _ => ?_))
      | exact ih0 _ _
      | exact LeO.none _
      | refine LeO.ite ?_ ?_
      | refine LeO.bind ?_ (fun _ => ?_)
set_option maxHeartbeats 8000000 in
set_option maxRecDepth 100000 in
theorem slices_IsSorted_int_int.calls (k : Nat) (A0 : Option Addr) (c0 : Nat) (l0 : List Int) (r : Bool) (w : World) (hr0 : Kd.C (Kd.int .i64) w A0 l0.length l0) (hc0 : l0.length ≤ c0) (h : slices_IsSorted_int_int.f k l0 = some r) :
    Calls Try.prog 17 #[.slice A0 l0.length c0] w fun e w' => e = .returned (.bool r) ∧ Drawn0 w w' := by
  have HR0 := Aside0.mk hr0
  have HC0 := Aside0.mk hc0
  clear hr0 hc0
  have H : (slices_IsSorted_int_int.l0 k l0 (wrap64 ((l0.length : Int) - 1))) = some r := h
  clear h
  have H' := Aside0.mk H
  clear H
  go_enter Try.func17, Try.ntmps17
  go_wp2
  repeat (go_quiet (fail); try go_wp2)
  go_loopg [3] k (fun kq v3 w' => ∃ (x3_1 : Int), v3 = .int .i64 x3_1 ∧ Aside0 (slices_IsSorted_int_int.l0 kq l0 x3_1 = some r) ∧ Aside0 (kq ≤ k) ∧ Drawn0 w w')
  case atStart => exact ⟨(wrap64 ((l0.length : Int) - 1)), (by first | rfl | (simp; done) | (simp [*]; done)), H', ⟨Nat.le_refl _⟩, by repeat (first | exact Drawn0.refl _ | apply Drawn0.step)⟩
  case round =>
    clear H'
    try clear c1
    obtain ⟨x3_1, rfl, HA, HK1, ⟨m1, rfl⟩⟩ := hrel
    cases gk with
    | zero => exact absurd HA.out (by simp [slices_IsSorted_int_int.l0])
    | succ k1 =>
      have H := HA.out
      clear HA
      simp only [slices_IsSorted_int_int.l0] at H
      by_cases c2 : x3_1 > 0
      · rw [if_pos c2] at H
        have c2b0 : decide (0 < x3_1) = true := decide_eq_true c2
        clear c2
        by_cases c3 : 0 ≤ x3_1
        · rw [if_pos c3] at H
          have c3b0 : decide (0 ≤ x3_1) = true := decide_eq_true c3
          clear c3
          by_cases c4 : x3_1 < (l0.length : Int)
          · rw [if_pos c4] at H
            have c4b0 : decide (x3_1 < (l0.length : Int)) = true := decide_eq_true c4
            clear c4
            obtain ⟨ji5, hji5⟩ : ∃ j_ : Int, (wrap64 (x3_1 - 1)) = j_ := ⟨_, rfl⟩
            replace H : (if 0 ≤ (ji5) then (if (ji5) < (l0.length : Int) then ((cmp_Less_int.f (rd l0 x3_1) (rd l0 (ji5))).bind fun t1003 => (if t1003 = true then (some false) else (slices_IsSorted_int_int.l0 k1 l0 ji5))) else (none)) else (none)) = some r := by first | (rw [hji5] at H; exact H) | (simp only [hji5] at H ⊢; exact H)
            have hji5w : (IntKind.i64.wrap (x3_1 - 1)) = ji5 := (i64_w _).trans hji5
            by_cases c6 : 0 ≤ (ji5)
            · rw [if_pos c6] at H
              have c6b0 : decide (0 ≤ (ji5)) = true := decide_eq_true c6
              clear c6
              by_cases c7 : (ji5) < (l0.length : Int)
              · rw [if_pos c7] at H
                have c7b0 : decide ((ji5) < (l0.length : Int)) = true := decide_eq_true c7
                clear c7
                replace H := Option.bind_eq_some_iff.mp H
                obtain ⟨t1003, A80, H⟩ := H
                replace H : (if t1003 = true then (some false) else (slices_IsSorted_int_int.l0 k1 l0 ji5)) = some r := H
                have A8 := Aside0.mk A80
                clear A80
                by_cases c9 : t1003 = true
                · subst c9
                  have H1 : (some false) = some r := by rw [if_pos rfl] at H; exact H
                  clear H
                  have H := H1
                  clear H1
                  obtain rfl := Option.some.inj H
                  have p1001 : 0 ≤ (x3_1 : Int) := of_decide_eq_true (by first | (with_reducible assumption) | assumption)
                  have q1001 : x3_1 < (l0.length : Int) := of_decide_eq_true (by first | (with_reducible assumption) | assumption)
                  obtain ⟨ad1001, e1001, hx1001_0⟩ := Kd.at_int HR0.out x3_1 p1001 q1001
                  cases e1001
                  replace p1001 := eq_true p1001
                  replace q1001 := eq_true q1001
                  have p1002 : 0 ≤ ((ji5) : Int) := of_decide_eq_true (by first | (with_reducible assumption) | assumption)
                  have q1002 : (ji5) < (l0.length : Int) := of_decide_eq_true (by first | (with_reducible assumption) | assumption)
                  obtain ⟨ad1002, e1002, hx1002_0⟩ := Kd.at_int HR0.out (ji5) p1002 q1002
                  obtain rfl : ad1001 = ad1002 := (by injection e1002)
                  replace p1002 := eq_true p1002
                  replace q1002 := eq_true q1002
                  go_wp2_with (first | (go_at_call 41; (with_reducible refine (cmp_Less_int.calls (rd l0 x3_1) (rd l0 (ji5)) true _ A8.out).mono ?_); rintro e w' ⟨rfl, ⟨nd, rfl⟩⟩; (try first | exact ⟨rfl, _, World.drewN_drewN _ _ _⟩ | exact ⟨rfl, _, Eq.trans (World.drewN_drewN _ _ _) (congrArg (World.drewN _) (Nat.add_assoc _ _ _))⟩)))
                  repeat (go_quiet (first | (go_at_call 41; (with_reducible refine (cmp_Less_int.calls (rd l0 x3_1) (rd l0 (ji5)) true _ A8.out).mono ?_); rintro e w' ⟨rfl, ⟨nd, rfl⟩⟩; (try first | exact ⟨rfl, _, World.drewN_drewN _ _ _⟩ | exact ⟨rfl, _, Eq.trans (World.drewN_drewN _ _ _) (congrArg (World.drewN _) (Nat.add_assoc _ _ _))⟩))); try go_wp2_with (first | (go_at_call 41; (with_reducible refine (cmp_Less_int.calls (rd l0 x3_1) (rd l0 (ji5)) true _ A8.out).mono ?_); rintro e w' ⟨rfl, ⟨nd, rfl⟩⟩; (try first | exact ⟨rfl, _, World.drewN_drewN _ _ _⟩ | exact ⟨rfl, _, Eq.trans (World.drewN_drewN _ _ _) (congrArg (World.drewN _) (Nat.add_assoc _ _ _))⟩))))
                  go_ret
                  exact ⟨by first | rfl | (simp; done) | (simp only [← hji5] <;> (first | rfl | simp)) | (simp [*]; done), by repeat (first | exact Drawn0.refl _ | apply Drawn0.step)⟩
                · replace c9 := Bool.eq_false_iff.mpr c9
                  subst c9
                  have H1 : (slices_IsSorted_int_int.l0 k1 l0 ji5) = some r := by rw [if_neg (show ¬ (false = true) by decide)] at H; exact H
                  clear H
                  have H := H1
                  clear H1
                  have H' := Aside0.mk H
                  clear H
                  have p1001 : 0 ≤ (x3_1 : Int) := of_decide_eq_true (by first | (with_reducible assumption) | assumption)
                  have q1001 : x3_1 < (l0.length : Int) := of_decide_eq_true (by first | (with_reducible assumption) | assumption)
                  obtain ⟨ad1001, e1001, hx1001_0⟩ := Kd.at_int HR0.out x3_1 p1001 q1001
                  cases e1001
                  replace p1001 := eq_true p1001
                  replace q1001 := eq_true q1001
                  have p1002 : 0 ≤ ((ji5) : Int) := of_decide_eq_true (by first | (with_reducible assumption) | assumption)
                  have q1002 : (ji5) < (l0.length : Int) := of_decide_eq_true (by first | (with_reducible assumption) | assumption)
                  obtain ⟨ad1002, e1002, hx1002_0⟩ := Kd.at_int HR0.out (ji5) p1002 q1002
                  obtain rfl : ad1001 = ad1002 := (by injection e1002)
                  replace p1002 := eq_true p1002
                  replace q1002 := eq_true q1002
                  go_wp2_with (first | (go_at_call 41; (with_reducible refine (cmp_Less_int.calls (rd l0 x3_1) (rd l0 (ji5)) false _ A8.out).mono ?_); rintro e w' ⟨rfl, ⟨nd, rfl⟩⟩; (try first | exact ⟨rfl, _, World.drewN_drewN _ _ _⟩ | exact ⟨rfl, _, Eq.trans (World.drewN_drewN _ _ _) (congrArg (World.drewN _) (Nat.add_assoc _ _ _))⟩)))
                  repeat (go_quiet (first | (go_at_call 41; (with_reducible refine (cmp_Less_int.calls (rd l0 x3_1) (rd l0 (ji5)) false _ A8.out).mono ?_); rintro e w' ⟨rfl, ⟨nd, rfl⟩⟩; (try first | exact ⟨rfl, _, World.drewN_drewN _ _ _⟩ | exact ⟨rfl, _, Eq.trans (World.drewN_drewN _ _ _) (congrArg (World.drewN _) (Nat.add_assoc _ _ _))⟩))); try go_wp2_with (first | (go_at_call 41; (with_reducible refine (cmp_Less_int.calls (rd l0 x3_1) (rd l0 (ji5)) false _ A8.out).mono ?_); rintro e w' ⟨rfl, ⟨nd, rfl⟩⟩; (try first | exact ⟨rfl, _, World.drewN_drewN _ _ _⟩ | exact ⟨rfl, _, Eq.trans (World.drewN_drewN _ _ _) (congrArg (World.drewN _) (Nat.add_assoc _ _ _))⟩))))
                  go_roundg k1
                  case measure => have := HK1.out; omega
                  case rel => exact ⟨(ji5), (by first | rfl | (simp; done) | (simp only [← hji5] <;> (first | rfl | simp)) | (simp [*]; done)), H', ⟨by have := HK1.out; omega⟩, by repeat (first | exact Drawn0.refl _ | apply Drawn0.step)⟩
              · rw [if_neg c7] at H
                exact absurd H (by simp)
            · rw [if_neg c6] at H
              exact absurd H (by simp)
          · rw [if_neg c4] at H
            exact absurd H (by simp)
        · rw [if_neg c3] at H
          exact absurd H (by simp)
      · rw [if_neg c2] at H
        have c2b0 : decide (0 < x3_1) = false := decide_eq_false c2
        clear c2
        obtain rfl := Option.some.inj H
        go_wp2
        repeat (go_quiet (fail); try go_wp2)
        go_ret
        exact ⟨by first | rfl | (simp; done) | (simp [*]; done), by repeat (first | exact Drawn0.refl _ | apply Drawn0.step)⟩

end Go.Proofs.Ytfjafmgaahfhgaa.P
namespace Go.Proofs.Ytfjafmgaahfhgaa.P
open Go.RowKit Go.Proofs.YtfjafmgaahfhgaaW.PrintWords Go.Proofs.YtfjafmgaahfhgaaW.PrintLast Go.Proofs.YtfjafmgaahfhgaaW.PrintMore
attribute [local go_sem] max2_int min2_int max_two min_two max_three min_three max_four min_four   -- for this text's walks alone
set_option linter.unusedVariables false
set_option linter.unusedSimpArgs false

/-! ### sackbutlaw06_list: function 19 -/
def sackbutlaw06_list.f (l0 : List Int) : Option (List Int) := if 0 ≤ (mn (l0.length : Int) 9) then (if (mn (l0.length : Int) 9) ≤ (l0.length : Int) then ((slices_Clone_int_int.f (l0.take ((mn (l0.length : Int) 9) : Int).toNat)).bind fun t1003 => (some t1003)) else (none)) else (none)
set_option maxHeartbeats 8000000 in
set_option maxRecDepth 100000 in
theorem sackbutlaw06_list.calls (A0 : Option Addr) (c0 : Nat) (l0 : List Int) (r : List Int) (w : World) (hr0 : Kd.C (Kd.int .i64) w A0 l0.length l0) (hc0 : l0.length ≤ c0) (h : sackbutlaw06_list.f l0 = some r) :
    Calls Try.prog 19 #[.slice A0 l0.length c0] w fun e w' => ∃ v0_ : Value, e = .returned (v0_) ∧ Kd.R (Kd.int .i64) 3 w' w.heap.size (fun _ => True) v0_ r ∧ Below w.heap.size w w' := by
  have HR0 := Aside0.mk hr0
  have HC0 := Aside0.mk hc0
  clear hr0 hc0
  have HB := Aside0.mk (Below.refl w.heap.size w)
  have H : (if 0 ≤ (mn (l0.length : Int) 9) then (if (mn (l0.length : Int) 9) ≤ (l0.length : Int) then ((slices_Clone_int_int.f (l0.take ((mn (l0.length : Int) 9) : Int).toNat)).bind fun t1003 => (some t1003)) else (none)) else (none)) = some r := h
  clear h
  obtain ⟨ji2, hji2⟩ : ∃ j_ : Int, (mn (l0.length : Int) 9) = j_ := ⟨_, rfl⟩
  replace H : (if 0 ≤ (ji2) then (if (ji2) ≤ (l0.length : Int) then ((slices_Clone_int_int.f (l0.take ((ji2) : Int).toNat)).bind fun t1003 => (some t1003)) else (none)) else (none)) = some r := by first | (rw [hji2] at H; exact H) | (simp only [hji2] at H ⊢; exact H)
  (try (have hji2h : ji2 ≤ 9 := by (rw [← hji2]; unfold mn; (repeat' split) <;> omega)))
  (try (have hji2g : ji2 ≤ 64 := by omega))
  (try (have hji2l : 0 ≤ ji2 := by (rw [← hji2]; unfold mn; (repeat' split) <;> omega)))
  (try (have hji2m : 0 ≤ ji2 := by omega))
  have hji2_ : (if 9 < (l0.length : Int) then 9 else (l0.length : Int)) = ji2 := hji2
  by_cases c3 : 0 ≤ (ji2)
  · rw [if_pos c3] at H
    have c3b0 := eq_true c3
    have c3b1 : decide (0 ≤ (ji2)) = true := decide_eq_true c3
    clear c3
    by_cases c4 : (ji2) ≤ (l0.length : Int)
    · rw [if_pos c4] at H
      have c4b0 := eq_true c4
      have c4b1 : decide ((ji2) ≤ (l0.length : Int)) = true := decide_eq_true c4
      clear c4
      obtain ⟨y1001, hy1001⟩ : ∃ y_ : List Int, y_ = (l0.take ((ji2) : Int).toNat) := ⟨_, rfl⟩
      replace H : ((slices_Clone_int_int.f y1001).bind fun t1003 => (some t1003)) = some r := by first | (rw [hy1001]; with_reducible exact H) | (have H2_ := (Option.bind_some _ _).symm.trans H; rw [hy1001]; with_reducible exact H2_) | (have H2_ := (Option.bind_some _ _).symm.trans H; with_reducible exact H2_) | with_reducible exact H | (rw [hy1001]; exact H) | exact H
      have Ny1001 := Aside0.mk hy1001
      clear hy1001
      replace H := Option.bind_eq_some_iff.mp H
      obtain ⟨t1003, A50, H⟩ := H
      replace H : (some t1003) = some r := H
      have A5 := Aside0.mk A50
      clear A50
      obtain rfl := Option.some.inj H
      obtain ⟨i06, hi06, _, hsz6, _⟩ := info_parts info3
      obtain ⟨hcut6, hA6, hC6⟩ := print_take_of (P := Try.prog) (Value.int .i64) 0 23 3 .i64 Try.underlying23 hi06 hsz6 A0 c0 l0 (ji2) (of_decide_eq_true (by first | (with_reducible assumption) | assumption)) (of_decide_eq_true (by first | (with_reducible assumption) | assumption)) HC0.out
      (first | rw [← Ny1001.out] at hcut6 hA6 hC6 | (simp only [Int.reduceToNat] at hcut6 hA6 hC6; rw [← Ny1001.out] at hcut6 hA6 hC6))
      have HR1002 := Aside0.mk (Kd.C_of_reads (h1 := fun _ => rfl) (hA6 _ (Kd.reads_of_C HR0.out)))
      have HC1002 := Aside0.mk hC6
      clear hA6 hC6 hi06 hsz6
      go_enter Try.func19, Try.ntmps19
      go_wp2_with (first | ((with_reducible refine gate_callee (f := 29) rfl ?_); refine goesL_ (some 8) rfl rfl Try.func29 (by kernel_rfl) rfl #[.slice A0 y1001.length c0] rfl (by (try simp only [List.map_toArray, List.map_cons, List.map_nil]); first | done | rfl | (simp only [List.length_drop, List.length_take]; rfl)) ?_; (with_reducible refine (slices_Clone_int_int.calls _ _ y1001 t1003 _ ?side1 ?side2 A5.out).mono ?_); (case side1 => repeat (first | exact HR1002.out | (with_reducible refine Kd.C_alloc ?_ _) | (with_reducible refine Kd.C_drewN ?_ _) | (with_reducible refine Kd.C_drew ?_))); (case side2 => exact HC1002.out); rintro e w7 ⟨v1004, rfl, ho0, hb⟩; refine ⟨_, rfl, ?_⟩; have n0_ := Aside0.mk (Kd.R_lower ho0 (below_size (by repeat (first | (with_reducible first | exact HB.out | apply below_alloc | apply pw_below_drewN | apply below_drew1) | exact HB.out)))); have n1_ := Aside0.mk (below_step (by repeat (first | (with_reducible first | exact HB.out | apply below_alloc | apply pw_below_drewN | apply below_drew1) | exact HB.out)) hb); clear HB; have HO1005 := n0_; have HB := n1_; clear n0_ n1_; (try clear hb); (try clear hb2); (try clear hk); (try clear hi); (try clear ho0)))
      go_ret
      exact ⟨_, by first | rfl | (simp [errW_none, errW_some] <;> rfl) | (simp only [← hji2]; first | rfl | (simp [errW_none, errW_some] <;> rfl)) | (simp [*, errW_none, errW_some] <;> rfl), by (with_reducible repeat (first | apply Kd.R_alloc | apply Kd.R_drewN | apply Kd.R_drew)); exact HO1005.out, by repeat (first | (with_reducible first | exact HB.out | apply below_alloc | apply pw_below_drewN | apply below_drew1) | exact HB.out)⟩
    · rw [if_neg c4] at H
      exact absurd H (by simp)
  · rw [if_neg c3] at H
    exact absurd H (by simp)

end Go.Proofs.Ytfjafmgaahfhgaa.P
