/- A part of a proof that a law's Go function returns true for every input, laid by this session's program mp.py (which drives the kit's print). Conditions: as each theorem states them. -/
import Derived.Maps.Own
import Derived.Maps.Views
import Derived.Test.YtnjmiodnkjabgaaGChValid
import Derived.Test.YtnjmiodnkjabgaaP0
import Derived.Test.YtnjmiodnkjabgaaPf16
import Derived.Test.YtnjmiodnkjabgaaQBase
namespace Go.Proofs.Ytnjmiodnkjabgaa.P
open Go.RowKit Go.Proofs.YtnjmiodnkjabgaaW.PrintWords Go.Proofs.YtnjmiodnkjabgaaW.PrintLast Go.Proofs.YtnjmiodnkjabgaaW.PrintMore
attribute [local go_sem] max2_int min2_int max_two min_two max_three min_three max_four min_four   -- for this text's walks alone
set_option linter.unusedVariables false
set_option linter.unusedSimpArgs false

open Go.ChangeMaps Go.MapKept Go.Maps
/-! chords.Deep: the numbers that are not 0 are different -/
def deepGo : List Int → List Int → Bool
  | [], _ => true
  | c :: cs, seen => if c > 0 ∧ c ∈ seen then false else deepGo cs (c :: seen)
def chords_Deep.f (k : Nat) (a0 a1 : Int) : Option (Bool × Int) := (chords_circle_valid.f a0 [a1]).bind fun v => if v = true then (chords_circle_vector.f k a0 a1).bind fun l => (if l.length < 1000 ∧ (∀ c ∈ l, (Lit.int .i64 c).wf = true) then some (deepGo l [], 0) else none) else some (false, 2)
theorem chords_Deep.mono : ∀ a0 a1 k, LeO (chords_Deep.f k a0 a1) (chords_Deep.f (k + 1) a0 a1) := by
  intro a0 a1 k
  unfold chords_Deep.f
  repeat' first
    | (with_reducible exact chords_circle_vector.mono _ _ _)
    | (with_reducible exact LeO.refl _)
    | (with_reducible exact LeO.none _)
    | (with_reducible refine LeO.ite ?_ ?_)
    | (with_reducible refine LeO.bind ?_ (fun _ => ?_))
abbrev SeenMap (w : World) (b n : Nat) (D : DataW Unit) : Prop := w.ownsMap Try.prog 3 (plainElem Try.prog 4) b n D
/-- the map holds true just at what was seen -/
def Holds (D : DataW Unit) (seen : List Int) : Prop := IsMap D ∧ ∀ c : Int, D.atKey (.int .i64 c) (.lit (.bool false)) = .lit (.bool (decide (c ∈ seen)))
theorem holds_nil : Holds (.map []) [] := ⟨⟨_, rfl⟩, fun c => by rw [WideAt.atKey_none _ (by simp)]; rfl⟩
theorem holds_put {D : DataW Unit} {seen : List Int} (h : Holds D seen) (c : Int) : Holds (D.put (.int .i64 c) (.lit (.bool true))) (c :: seen) := by
  obtain ⟨hm, hs⟩ := h
  refine ⟨by obtain ⟨es, rfl⟩ := hm; exact ⟨_, rfl⟩, fun x => ?_⟩
  by_cases e : x = c
  · subst e
    rw [atKey_put_same hm (by first | trivial | exact rfl | simp [WideAt.IsKeyLit])]
    simp
  · rw [atKey_put_other (fun e2 => e (by cases e2; rfl)), hs x]
    simp [e]
theorem bool_inv {v : Value} {z : DataW Unit × List MemPlace} (h : plainElem (H := Unit) Try.prog 4 v = some z) : ∃ b, v = .bool b ∧ z = (.lit (.bool b), []) := by
  unfold plainElem at h
  rw [Try.underlying4] at h
  cases v <;> simp at h
  exact ⟨_, rfl, h.symm⟩
theorem look_run {w : World} {b n : Nat} {D : DataW Unit} {seen : List Int} (hm : SeenMap w b n D) (hs : Holds D seen) (c : Int) (hc : (Lit.int .i64 c).wf = true) :
    (Instr.lookup 41 (.map (some b)) (.int .i64 c) false).run Try.prog w = .ok (.bool (decide (c ∈ seen))) w := by
  obtain ⟨v, ps, hrun, hv⟩ := World.ownsMap.lookup hm (Maps.int_keyed Try.underlying3) Try.underlying41 (z := .bool false) (by rfl) (plainElem_bool Try.underlying4 false) (Maps.keyOf_int_mk Try.underlying3 hc)
  rw [hs.2 c] at hv
  obtain ⟨x, rfl, hx⟩ := bool_inv hv
  simp only [Prod.mk.injEq, DataW.lit.injEq, Lit.bool.injEq] at hx
  rw [hrun, hx.1]
theorem upd_run {w : World} {b n : Nat} {D : DataW Unit} {seen : List Int} (hm : SeenMap w b n D) (hs : Holds D seen) (c : Int) (hc : (Lit.int .i64 c).wf = true) (hn : n < 1000) :
    ∃ w' D', (Instr.mapUpdate 41 (.map (some b)) (.int .i64 c) (.bool true)).run Try.prog w = .ok () w' ∧ SeenMap w' b (n + 1) D' ∧ Holds D' (c :: seen) ∧ w.grownBy w' (some b) := by
  obtain ⟨w', h1, h2, h3⟩ := World.ownsMap.update hm (Maps.int_keyed Try.underlying3) Try.underlying41 (Nat.lt_of_lt_of_le hn (by decide)) (val := .bool true) (Maps.keyOf_int_mk Try.underlying3 hc) (plainElem_bool Try.underlying4 true)
  exact ⟨w', _, h1, h2, holds_put hs c, h3⟩
theorem owns_made' (w : World) : SeenMap (w.alloc (.map #[] 0)) w.heap.size 0 (.map []) := World.ownsMap_made w _ _ _
theorem owns_below {w w' : World} {b n : Nat} {D : DataW Unit} (h : SeenMap w b n D) (hb : Below w.heap.size w w') : SeenMap w' b n D := by
  obtain ⟨es, clock, h1, h2⟩ := h
  exact ⟨es, clock, (hb.block b (Array.getElem?_eq_some_iff.1 h1).1).trans h1, h2⟩
def CellsOf (w : World) (v : Value) (l : List Int) : Prop := ∀ i, i < l.length → ∃ (ad : Addr) (c : Nat), v = .slice (some ad) l.length c ∧ w.cell? (ad.add i) = some (.int .i64 (rd l (i : Int)))
theorem cells_of {w' : World} {B : Nat} {v : Value} {l : List Int} (h : Kd.R (Kd.int .i64) 3 w' B (fun _ => True) v l) : CellsOf w' v l := by
  obtain ⟨Ao, co, rfl⟩ := Kd.R_slice h
  intro i hi
  obtain ⟨ad, e, hc⟩ := Kd.at_int (Kd.R_reads' h).2.2 (i : Int) (by omega) (by omega)
  subst e
  exact ⟨ad, co, rfl, by simpa using hc⟩
theorem cells_grown {w w' : World} {b n : Nat} {D : DataW Unit} {v : Value} {l : List Int} (h : CellsOf w v l) (hm : SeenMap w b n D) (hg : w.grownBy w' (some b)) : CellsOf w' v l := by
  intro i hi
  obtain ⟨ad, c, e, hc⟩ := h i hi
  refine ⟨ad, c, e, ?_⟩
  obtain ⟨es, clock, hb, _⟩ := hm
  have hne : (ad.add i).block ≠ b := fun e2 => by
    unfold World.cell? at hc
    rw [e2, hb] at hc
    cases hc
  rw [World.cell?_of_block (hg.block _ (World.block_lt_of_cell? w _ hc) (fun e2 => hne (by cases e2; rfl)))]
  exact hc
set_option maxHeartbeats 8000000 in
set_option maxRecDepth 100000 in
theorem chords_Deep.calls (k : Nat) (a0 a1 : Int) (r1 : Bool) (r2 : Int) (w : World) (h : chords_Deep.f k a0 a1 = some (r1, r2)) :
    Calls Try.prog 11 #[.int .i64 a0, .int .i64 a1] w fun e w' => e = .returned (.tuple #[.bool r1, .int .i64 r2]) ∧ Below w.heap.size w w' := by
  have HB := Aside0.mk (Below.refl w.heap.size w)
  unfold chords_Deep.f at h
  obtain ⟨v, hv, h⟩ := Option.bind_eq_some_iff.mp h
  obtain ⟨y, hy⟩ : ∃ y : List Int, y = [a1] := ⟨_, rfl⟩
  rw [← hy] at hv
  have HY := Aside0.mk hy
  have HV := Aside0.mk hv
  clear hy hv
  cases v with
  | false =>
    rw [if_neg (by decide)] at h
    simp only [Option.some.injEq, Prod.mk.injEq] at h
    obtain ⟨rfl, rfl⟩ := h
    go_enter Try.func11, Try.ntmps11
    go_wp2_with (first | ((with_reducible refine gate_dst (N := 11) rfl ?_); refine Kd.R_lit (Kd.int .i64) _ 3 ?hg (N := 11) ?hd (xs := ([a1] : List Int)) (inner := [.int .i64 a1]) (ok := fun _ => True) (okp := fun _ => True) ?hr ?hp (fun _ hk => hk) trivial (Below.refl _ _) (Nat.le_refl _) (by simp) ?_; (case hd => rfl); (case hg => rfl); (case hr => first | (go_simp; done) | (go_simp; rfl)); (case hp => exact (Reps.one (show Kd.M (Kd.int .i64) _ _ _ a1 [.int .i64 a1] from rfl) (Reps.none _ _))); intro v1002 w7 ho8 hb hg_ hnew_; clear hg_ hnew_; rw [← HY.out] at ho8; have n0_ := Aside0.mk (Kd.R_lower ho8 (below_size (by repeat (first | (with_reducible first | exact HB.out | apply below_alloc | apply pw_below_drewN | apply below_drew1) | exact HB.out)))); have n1_ := Aside0.mk (below_step (by repeat (first | (with_reducible first | exact HB.out | apply below_alloc | apply pw_below_drewN | apply below_drew1) | exact HB.out)) hb); clear HB; have HO := n0_; have HB := n1_; clear n0_ n1_; clear hb ho8; obtain ⟨Ao9, co9, eo9⟩ := Kd.R_slice HO.out; subst eo9) | ((with_reducible refine gate_callee (f := 15) rfl ?_); refine goesL_ (some 12) rfl rfl Try.func15 (by kernel_rfl) rfl #[.int .i64 a0, .slice Ao9 y.length co9] rfl (by (try simp only [List.map_toArray, List.map_cons, List.map_nil]); first | done | rfl) ?_; (with_reducible refine (chords_circle_valid.calls a0 _ _ y false _ ?side1 ?side2 HV.out).mono ?_); (case side1 => repeat (first | exact (Kd.R_reads' HO.out).2.2 | (with_reducible refine Kd.C_alloc ?_ _) | (with_reducible refine Kd.C_drewN ?_ _) | (with_reducible refine Kd.C_drew ?_))); (case side2 => exact (Kd.R_reads' HO.out).2.1); rintro e w10 ⟨rfl, hb⟩; refine ⟨_, rfl, ?_⟩; have n1_ := Aside0.mk (below_step (by repeat (first | (with_reducible first | exact HB.out | apply below_alloc | apply pw_below_drewN | apply below_drew1) | exact HB.out)) hb); clear HO HB; have HB := n1_; clear n1_; clear hb))
    go_ret2
    exact ⟨by first | rfl | simp, (by repeat (first | (with_reducible first | exact HB.out | apply below_alloc | apply pw_below_drewN | apply below_drew1) | exact HB.out))⟩
  | true =>
    rw [if_pos rfl] at h
    obtain ⟨l, hl, h⟩ := Option.bind_eq_some_iff.mp h
    by_cases hg : l.length < 1000 ∧ (∀ c ∈ l, (Lit.int .i64 c).wf = true)
    · rw [if_pos hg] at h
      simp only [Option.some.injEq, Prod.mk.injEq] at h
      obtain ⟨hres, rfl⟩ := h
      have HL := Aside0.mk hl
      have HG := Aside0.mk hg
      have HR := Aside0.mk hres
      clear hl hg hres
      have hmm := @run_makeMap Try.prog
      go_enter Try.func11, Try.ntmps11
      go_wp2_with (first | ((with_reducible refine gate_dst (N := 11) rfl ?_); refine Kd.R_lit (Kd.int .i64) _ 3 ?hg (N := 11) ?hd (xs := ([a1] : List Int)) (inner := [.int .i64 a1]) (ok := fun _ => True) (okp := fun _ => True) ?hr ?hp (fun _ hk => hk) trivial (Below.refl _ _) (Nat.le_refl _) (by simp) ?_; (case hd => rfl); (case hg => rfl); (case hr => first | (go_simp; done) | (go_simp; rfl)); (case hp => exact (Reps.one (show Kd.M (Kd.int .i64) _ _ _ a1 [.int .i64 a1] from rfl) (Reps.none _ _))); intro v1002 w7 ho8 hb hg_ hnew_; clear hg_ hnew_; rw [← HY.out] at ho8; have n0_ := Aside0.mk (Kd.R_lower ho8 (below_size (by repeat (first | (with_reducible first | exact HB.out | apply below_alloc | apply pw_below_drewN | apply below_drew1) | exact HB.out)))); have n1_ := Aside0.mk (below_step (by repeat (first | (with_reducible first | exact HB.out | apply below_alloc | apply pw_below_drewN | apply below_drew1) | exact HB.out)) hb); clear HB; have HO := n0_; have HB := n1_; clear n0_ n1_; clear hb ho8; obtain ⟨Ao9, co9, eo9⟩ := Kd.R_slice HO.out; subst eo9) | ((with_reducible refine gate_callee (f := 15) rfl ?_); refine goesL_ (some 12) rfl rfl Try.func15 (by kernel_rfl) rfl #[.int .i64 a0, .slice Ao9 y.length co9] rfl (by (try simp only [List.map_toArray, List.map_cons, List.map_nil]); first | done | rfl) ?_; (with_reducible refine (chords_circle_valid.calls a0 _ _ y true _ ?side1 ?side2 HV.out).mono ?_); (case side1 => repeat (first | exact (Kd.R_reads' HO.out).2.2 | (with_reducible refine Kd.C_alloc ?_ _) | (with_reducible refine Kd.C_drewN ?_ _) | (with_reducible refine Kd.C_drew ?_))); (case side2 => exact (Kd.R_reads' HO.out).2.1); rintro e w10 ⟨rfl, hb⟩; refine ⟨_, rfl, ?_⟩; have n1_ := Aside0.mk (below_step (by repeat (first | (with_reducible first | exact HB.out | apply below_alloc | apply pw_below_drewN | apply below_drew1) | exact HB.out)) hb); clear HO HB; have HB := n1_; clear n1_; clear hb) | (go_at_call 16; refine (chords_circle_vector.calls k a0 a1 l _ HL.out).mono ?_; rintro e w12 ⟨v12, rfl, ho, hb⟩; have hown := owns_below (owns_made' w10) hb; have HS := Aside0.mk HB.out.size; have n1_ := Aside0.mk (below_step (by repeat (first | (with_reducible first | exact HB.out | apply below_alloc | apply pw_below_drewN | apply below_drew1) | exact HB.out)) hb); have HC := Aside0.mk (cells_of ho); clear HB; have HB := n1_; clear n1_ hb; obtain ⟨Av_, cv_, ev_⟩ := Kd.R_slice ho; subst ev_; clear ho; have HW := Aside0.mk hown; clear hown))
      go_loopg [19] l.length (fun gg v19 w' => ∃ (kk : Nat) (seen : List Int) (D : DataW Unit), v19 = .int .i64 kk ∧ Aside0 (kk + gg = l.length) ∧ Aside0 (deepGo (l.drop kk) seen = r1) ∧ Aside0 (SeenMap w' w10.heap.size kk D) ∧ Aside0 (Holds D seen) ∧ Aside0 (CellsOf w' (.slice Av_ l.length cv_) l) ∧ Aside0 (Below w.heap.size w w'))
      case atStart => exact ⟨0, [], .map [], rfl, ⟨by omega⟩, HR, HW, ⟨holds_nil⟩, HC, HB⟩
      case round =>
        clear HR HW HC HB
        obtain ⟨kk, seen, D, rfl, HK, HR, HW, HH, HC, HB⟩ := hrel
        by_cases hlt : kk < l.length
        · have hltz : (kk : Int) < (l.length : Int) := by omega
          have hk0 : (0 : Int) ≤ (kk : Int) := by omega
          obtain ⟨ad, cz, e, hc⟩ := HC.out kk hlt
          injection e with e1 e2 e3
          subst e1
          clear e2 e3
          rw [rd_get hlt] at hc
          generalize hy : l[kk] = c at hc
          have hd : l.drop kk = c :: l.drop (kk + 1) := by rw [← hy]; exact List.drop_eq_getElem_cons hlt
          have hr := HR.out
          rw [hd] at hr
          simp only [deepGo] at hr
          have hwf : (Lit.int .i64 c).wf = true := HG.out.2 c (hy ▸ List.getElem_mem hlt)
          have hl := look_run HW.out HH.out c hwf
          obtain ⟨w2, D2, hu, hm2, hs2, hg2⟩ := upd_run HW.out HH.out c hwf (by have := HG.out.1; omega)
          have HM2 := Aside0.mk hm2
          have HS2 := Aside0.mk hs2
          have HG2 := Aside0.mk hg2
          clear hm2 hs2 hg2 hwf hd hy
          by_cases hcp : c > 0
          · by_cases hin : c ∈ seen
            · rw [if_pos ⟨hcp, hin⟩] at hr
              subst hr
              rw [decide_eq_true hin] at hl
              have hcb : decide (c > 0) = true := decide_eq_true hcp
              clear hu hin hcp
              go_wp2
              go_ret2
              exact ⟨by first | rfl | simp, HB.out⟩
            · rw [if_neg (fun x => hin x.2)] at hr
              rw [decide_eq_false hin] at hl
              have hcb : decide (c > 0) = true := decide_eq_true hcp
              have HR2 := Aside0.mk hr
              clear hin hcp hr
              go_wp2
              go_roundg (gk - 1)
              case measure => have := HK.out; omega
              case rel =>
                exact ⟨kk + 1, c :: seen, D2, (by have h1_ := HG.out.1; rw [wrap_id (by omega) (by omega)]; rfl), ⟨by have := HK.out; omega⟩, HR2, HM2, HS2, ⟨cells_grown HC.out HW.out HG2.out⟩, ⟨HB.out.grown HG2.out HB.out.size (fun k e => by cases e; exact HS.out)⟩⟩
          · rw [if_neg (fun x => hcp x.1)] at hr
            have hcb : decide (c > 0) = false := decide_eq_false hcp
            have HR2 := Aside0.mk hr
            clear hcp hr hl
            go_wp2
            go_roundg (gk - 1)
            case measure => have := HK.out; omega
            case rel =>
              exact ⟨kk + 1, c :: seen, D2, (by have h1_ := HG.out.1; rw [wrap_id (by omega) (by omega)]; rfl), ⟨by have := HK.out; omega⟩, HR2, HM2, HS2, ⟨cells_grown HC.out HW.out HG2.out⟩, ⟨HB.out.grown HG2.out HB.out.size (fun k e => by cases e; exact HS.out)⟩⟩
        · have hltz : ¬ (kk : Int) < (l.length : Int) := by omega
          have hr := HR.out
          rw [List.drop_eq_nil_of_le (by omega)] at hr
          simp only [deepGo] at hr
          subst hr
          go_wp2
          go_ret2
          exact ⟨by first | rfl | simp, HB.out⟩
    · rw [if_neg hg] at h; cases h

end Go.Proofs.Ytnjmiodnkjabgaa.P
