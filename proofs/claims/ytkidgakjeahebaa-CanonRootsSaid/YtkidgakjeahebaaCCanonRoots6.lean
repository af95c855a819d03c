/- A part of a proof that a law's Go function returns true for every input, laid by this session's program mp.py (which drives the kit's print). Conditions: as each theorem states them. -/
import Derived.Lib.SliceRun
import Derived.Maps.AppendAt
import Derived.RangeFuncNested
import Derived.RangeFuncBound
import Derived.RangeFuncCalls
import Derived.Shelf.Abstract
import Derived.StillTailTactics
import Derived.Test.YtkidgakjeahebaaCCanonRoots1
import Derived.Test.YtkidgakjeahebaaCCanonRoots2
import Derived.Test.YtkidgakjeahebaaCCanonRoots3
import Derived.Test.YtkidgakjeahebaaCCanonRoots4
import Derived.Test.YtkidgakjeahebaaCCanonRoots5
namespace Go.Proofs.Ytkidgakjeahebaa.P
open Go.RowKit Go.Proofs.YtkidgakjeahebaaW.PrintWords Go.Proofs.YtkidgakjeahebaaW.PrintLast Go.Proofs.YtkidgakjeahebaaW.PrintMore
attribute [local go_sem] max2_int min2_int max_two min_two max_three min_three max_four min_four   -- for this text's walks alone
set_option linter.unusedVariables false
set_option linter.unusedSimpArgs false

/-! the second condition of the document: all products -/
def secIn (p : Nat) (bl : List Int) : List Nat → List Int → List Int
  | [], P => P
  | s :: rs, P => secIn p bl rs (if prN s = p then P ++ bl.map (fun x => wrap64 (x * (s : Int))) else P)
def secOut (rs : List Nat) : Nat → Nat → List Int → List Int
  | 0, _, P => P
  | m + 1, p, P => secOut rs m (p + 1) (secIn p P rs P)
def secFin (n : Nat) (rs : List Nat) : List Int := secOut rs (n - 1) 2 [1]
theorem secIn_le (p : Nat) (bl : List Int) : ∀ (rs : List Nat) (P : List Int), P.length ≤ (secIn p bl rs P).length
  | [], P => Nat.le_refl _
  | s :: rs, P => by
    unfold secIn
    refine Nat.le_trans ?_ (secIn_le p bl rs _)
    split
    · rw [List.length_append]; omega
    · exact Nat.le_refl _
theorem secOut_le (rs : List Nat) : ∀ (m p : Nat) (P : List Int), P.length ≤ (secOut rs m p P).length
  | 0, _, P => Nat.le_refl _
  | m + 1, p, P => Nat.le_trans (secIn_le p P rs P) (secOut_le rs m (p + 1) _)
def divsN (n : Nat) : List Nat := (List.range' 2 (n - 1)).filter fun s => decide (n % s = 0)
def allSub : List Nat → (List Nat → Bool) → Bool
  | [], P => P []
  | x :: xs, P => allSub xs P && allSub xs (fun l => P (x :: l))
theorem allSub_filter (q : Nat → Bool) : ∀ (l : List Nat) (P : List Nat → Bool), allSub l P = true → P (l.filter q) = true
  | [], P, h => h
  | x :: xs, P, h => by
    unfold allSub at h
    rw [Bool.and_eq_true] at h
    rw [List.filter_cons]
    split
    · exact allSub_filter q xs (fun l => P (x :: l)) h.2
    · exact allSub_filter q xs P h.1
theorem rootsN_sub (n a : Nat) : rootsN n a = (divsN n).filter (isRt n a) := by
  unfold rootsN divsN
  rw [List.filter_filter]
  refine List.filter_congr (fun s _ => ?_)
  rw [Bool.and_comm]
theorem sec_table : (List.range' 2 23).all (fun n => allSub (divsN n) (fun rs => decide ((secFin n rs).length ≤ 1000) && (secFin n rs).all (fun x => decide (1 ≤ x) && decide (x ≤ (n : Int)) && decide (n % x.toNat = 0)))) = true := by kernel_rfl
theorem sec_fin {n a : Nat} (h2 : 2 ≤ n) (hn : n ≤ 24) : (secFin n (rootsN n a)).length ≤ 1000 ∧ ∀ x ∈ secFin n (rootsN n a), 1 ≤ x ∧ x ≤ (n : Int) ∧ n % x.toNat = 0 := by
  have h := List.all_eq_true.1 sec_table n (List.mem_range'_1.2 ⟨h2, by omega⟩)
  have h1 := allSub_filter (isRt n a) _ _ h
  rw [← rootsN_sub, Bool.and_eq_true] at h1
  refine ⟨of_decide_eq_true h1.1, fun x hx => ?_⟩
  have h3 := List.all_eq_true.1 h1.2 x hx
  simp only [Bool.and_eq_true, decide_eq_true_eq] at h3
  exact ⟨h3.1.1, h3.1.2, h3.2⟩
def secB (n a : Nat) : Bool := (secFin n (rootsN n a)).all (fun x => !(decide (x > 1)) || isRt n a x.toNat)
def sackbutref02_Second.f (a0 a1 : Int) : Option Bool := if 2 ≤ a0 ∧ a0 ≤ 24 ∧ 0 ≤ a1 ∧ a1 < (2 : Int) ^ a0.toNat then some (secB a0.toNat a1.toNat) else none
/-- append of one number: the block is the same, or all old ones are as they were -/
theorem app_keep {rest : List Oper} {ops : Array Oper} {o : Oper} {a : Act} {Q : Exit → Act → World → Prop} {w0 W : World} (base : Nat) (hgd : o.guard = none) (s x : Operand) (t : TypeId)
    (ho : o.op = .call { callee := .builtin .append, args := #[s, x], argTypes := #[t, t] })
    (ht : Try.prog.underlying t = some (.slice 3)) (hinfo : (Try.prog.info? 3).map (fun i => (i.zero, i.size, i.bytes)) = some (some (.int .i64 0), 1, 8))
    (v : Value) (xs : List Int) (p : Int) (hs : a.eval s = v) (hx : a.eval x = .slice (some ⟨W.heap.size, 0, none⟩) 1 1)
    (HO : Kd.R (Kd.int .i64) 3 W base (fun _ => True) v xs) (HB : Below base w0 W) (hbase : base ≤ W.heap.size) (hl : xs.length ≤ 100000)
    (h : ∀ v1 w1, Kd.R (Kd.int .i64) 3 w1 base (fun _ => True) v1 (xs ++ [p]) → Below base w0 w1 → W.grownBy w1 v.ownBlock → (v1.ownBlock = v.ownBlock ∨ ((∃ b, v1.ownBlock = some b ∧ W.heap.size ≤ b) ∧ ∀ k, k < W.heap.size → w1.heap[k]? = W.heap[k]?)) → wpList Try.prog ops Q rest (a.put o.dst v1) w1) :
    wpList Try.prog ops Q (o :: rest) a (W.alloc (.cells #[.int .i64 p] 3)) := by
  obtain ⟨i0, hi, hzz⟩ := Option.map_eq_some_iff.1 hinfo
  simp only [Prod.mk.injEq] at hzz
  obtain ⟨hz0, hz1, hz2⟩ := hzz
  have own := Kd.own_of_R (enc := Value.int .i64) (h1 := fun _ => rfl) HO
  have ownA := own.alloc (.cells #[.int .i64 p] 3)
  have hnews : ∀ j u, ([Value.int .i64 p] : List Value)[j]? = some u → (W.alloc (.cells #[.int .i64 p] 3)).cell? ((⟨W.heap.size, 0, none⟩ : Addr).add j) = some u := cell_one_new W (.int .i64 p) 3
  have h1 : ∀ u ∈ ([Value.int .i64 p] : List Value), u.oneCell' = true := by intro u hu; rw [List.mem_singleton.1 hu]; rfl
  have hsz : (W.alloc (.cells #[.int .i64 p] 3)).heap.size = W.heap.size + 1 := by simp
  have hold : ∀ k, k < W.heap.size → (W.alloc (.cells #[.int .i64 p] 3)).heap[k]? = W.heap[k]? := fun k hk => _root_.Go.heap_alloc_old W _ hk
  refine wpList_plain hgd fun K hK => ?_
  obtain ⟨v', w', hr, h2, h3, h4, h5⟩ := run_append_own_at (P := Try.prog) (W.alloc (.cells #[.int .i64 p] 3)) base t o.type 3 i0 (.int .i64 0) 1 8 ht hi hz0 hz1 hz2 rfl (by omega) v xs.length _ ownA ⟨W.heap.size, 0, none⟩ 1 1 [.int .i64 p] (by simp) hnews h1 (by simp only [maxLen]; omega) (by omega) (by rw [hsz]; omega)
  have key : v'.ownBlock = v.ownBlock ∨ ∀ k, k < W.heap.size → w'.heap[k]? = W.heap[k]? := by
    rcases ownA.2 with ⟨e1, e2⟩ | ⟨g, cap, cur, e1, hbg, hg, hnc, hcm, hcs, htake⟩
    · right
      rw [e1, run_append_nil (P := Try.prog) _ t o.type 3 i0 (.int .i64 0) ht hi hz0 ⟨W.heap.size, 0, none⟩ 1 1 [.int .i64 p] (by simp [hz1]) hnews (by omega) (by omega) (by omega)] at hr
      injection hr with _ hw
      intro k hk
      rw [← hw]
      refine (_root_.Go.heap_alloc_old (W.alloc _).drew _ (by show k < (W.alloc _).heap.size; simp; omega)).trans ?_
      exact hold k hk
    · by_cases hroom : xs.length + 1 ≤ cap
      · left
        rw [e1, run_append_room (P := Try.prog) _ t o.type 3 i0 ht hi g xs.length cap cur hg ⟨W.heap.size, 0, none⟩ 1 1 [.int .i64 p] (by simp [hz1]) hnews h1 hroom (by rw [hz1, hcs]; simp; omega)] at hr
        injection hr with hv _
        rw [← hv, e1]; rfl
      · right
        have holds : ∀ j u, (encs (Value.int .i64) xs)[j]? = some u → (W.alloc (.cells #[.int .i64 p] 3)).cell? ((⟨g, 0, none⟩ : Addr).add j) = some u := ownA.cells (by rw [e1]; rfl)
        rw [e1, run_append_grow (P := Try.prog) _ t o.type 3 i0 (.int .i64 0) ht hi hz0 ⟨g, 0, none⟩ xs.length cap (encs (Value.int .i64) xs) (by rw [hz1, encs_length]; omega) holds ⟨W.heap.size, 0, none⟩ 1 1 [.int .i64 p] (by simp [hz1]) hnews (by omega) (by omega) (by rw [hz2]; exact growslice_fits (by omega) (by omega))] at hr
        injection hr with _ hw
        intro k hk
        rw [← hw]
        refine (_root_.Go.heap_alloc_old (W.alloc _).drew _ (by show k < (W.alloc _).heap.size; simp; omega)).trans ?_
        exact hold k hk
  have e0 : encs (Value.int .i64) xs ++ [Value.int .i64 p] = encs (Value.int .i64) (xs ++ [p]) := by simp [encs]
  rw [e0] at h2
  have hgg := World.grownBy.trans (World.grownBy_alloc W (.cells #[.int .i64 p] 3) v.ownBlock) h3
  unfold Oper.wp execOp
  simp only [ho, resolve, invoke, builtin, Sem.run_bind, Sem.run_pure, Result.andThen_ok, List.map_toArray, List.map_cons, List.map_nil, hs, hx, hr]
  refine hK _ _ (h v' w' (Kd.R_of_own (h1 := fun _ => rfl) (by rw [List.length_append]; exact h2) (fun _ _ => trivial)) ((HB.alloc hbase _).grown h3 (by rw [hsz]; omega) (own_base own)) hgg ?_)
  rcases key with hk | hk
  · exact .inl hk
  · rcases h5 with h5 | h5
    · exact .inl h5
    · exact .inr ⟨⟨_, h5, by rw [hsz]; omega⟩, hk⟩
theorem cell_heap {W V : World} {ad : Addr} (h : V.heap[ad.block]? = W.heap[ad.block]?) : V.cell? ad = W.cell? ad := by
  unfold World.cell?; rw [h]
theorem add_blk (ad : Addr) (j : Nat) : (ad.add j).block = ad.block := by unfold Addr.add; split <;> rfl
structure SecSt (w0 W : World) (v5 : Value) (P : List Int) (ad : Addr) (bl : List Int) (vr : Value) (rs : List Int) : Prop where
  bel : Below w0.heap.size w0 W
  own : Kd.R (Kd.int .i64) 3 W w0.heap.size (fun _ => True) v5 P
  row : Kd.R (Kd.int .i64) 3 W w0.heap.size (fun _ => True) vr rs
  rne : ∀ k, vr.ownBlock = some k → v5.ownBlock = some k → False
  bef : ∀ j, j < bl.length → W.cell? (ad.add j) = some (.int .i64 (bl.getD j 0))
  lt : ad.block < W.heap.size
  adz : ad = ⟨ad.block, 0, none⟩
  pre : v5.ownBlock = some ad.block → bl <+: P
theorem SecSt.to {w0 W V : World} {v5 : Value} {P : List Int} {ad : Addr} {bl : List Int} {vr : Value} {rs : List Int} (h : SecSt w0 W v5 P ad bl vr rs) (hb : Below W.heap.size W V) : SecSt w0 V v5 P ad bl vr rs :=
  ⟨below_step h.bel hb, Kd.R_below h.own hb, Kd.R_below h.row hb, h.rne, fun j hj => (cell_heap (by rw [add_blk]; exact hb.block _ h.lt)).trans (h.bef j hj), Nat.lt_of_lt_of_le h.lt hb.size, h.adz, h.pre⟩
theorem SecSt.app {w0 W V : World} {v5 v1 : Value} {P : List Int} {x : Int} {ad : Addr} {bl : List Int} {vr : Value} {rs : List Int} (h : SecSt w0 W v5 P ad bl vr rs)
    (ho : Kd.R (Kd.int .i64) 3 V w0.heap.size (fun _ => True) v1 (P ++ [x])) (hb : Below w0.heap.size w0 V) (hg : W.grownBy V v5.ownBlock)
    (hat : v1.ownBlock = v5.ownBlock ∨ ((∃ b, v1.ownBlock = some b ∧ W.heap.size ≤ b) ∧ ∀ k, k < W.heap.size → V.heap[k]? = W.heap[k]?)) : SecSt w0 V v1 (P ++ [x]) ad bl vr rs := by
  have hrow := Kd.own_of_R (enc := Value.int .i64) (h1 := fun _ => rfl) h.row
  have hown := Kd.own_of_R (enc := Value.int .i64) (h1 := fun _ => rfl) ho
  refine ⟨hb, ho, Kd.R_of_own (h1 := fun _ => rfl) (hrow.kept hg ?_) (fun _ _ => trivial), ?_, ?_, Nat.lt_of_lt_of_le h.lt hg.size, h.adz, ?_⟩
  · cases hv : vr.ownBlock with
    | none => exact .inl rfl
    | some k => exact .inr (fun e => h.rne k hv e.symm)
  · intro k hk h1
    rcases hat with hat | ⟨⟨b, hb1, hb2⟩, _⟩
    · exact h.rne k hk (hat ▸ h1)
    · rw [hb1] at h1
      injection h1 with h1
      have := own_lt hrow k hk
      omega
  · intro j hj
    by_cases he : v5.ownBlock = some ad.block
    · rcases hat with hat | ⟨_, hk⟩
      · have hp := h.pre he
        have hj2 : j < P.length := Nat.lt_of_lt_of_le hj hp.length_le
        have hc := hown.cells (g := ad.block) (hat.trans he) j (.int .i64 (bl.getD j 0)) (by
          obtain ⟨t, rfl⟩ := hp
          simp only [encs, List.getElem?_map, List.append_assoc]
          rw [List.getElem?_append_left hj, List.getD_eq_getElem?_getD, List.getElem?_eq_getElem hj]
          rfl)
        rw [h.adz]; exact hc
      · exact (cell_heap (by rw [add_blk]; exact hk _ h.lt)).trans (h.bef j hj)
    · exact (cell_heap (by rw [add_blk]; exact hg.block _ h.lt (fun e => he e.symm))).trans (h.bef j hj)
  · intro h1
    rcases hat with hat | ⟨⟨b, hb1, hb2⟩, _⟩
    · exact (h.pre (hat ▸ h1)).trans (List.prefix_append _ _)
    · rw [hb1] at h1
      injection h1 with h1
      have := h.lt
      omega
theorem sec_start {b0 : Nat} {W : World} {v : Value} {P : List Int} (h : Kd.R (Kd.int .i64) 3 W b0 (fun _ => True) v P) (hp : 0 < P.length) :
    ∃ (ad : Addr) (c : Nat), v = .slice (some ad) P.length c ∧ (∀ j, j < P.length → W.cell? (ad.add j) = some (.int .i64 (P.getD j 0))) ∧ ad.block < W.heap.size ∧ ad = ⟨ad.block, 0, none⟩ := by
  have own := Kd.own_of_R (enc := Value.int .i64) (h1 := fun _ => rfl) h
  rcases own.2 with ⟨e1, e2⟩ | ⟨g, cap, cur, e1, hbg, hg, hnc, hcm, hcs, htake⟩
  · omega
  · refine ⟨⟨g, 0, none⟩, cap, e1, fun j hj => ?_, own_lt own g (by rw [e1]; rfl), rfl⟩
    refine own.cells (g := g) (by rw [e1]; rfl) j _ ?_
    simp only [encs, List.getElem?_map]
    rw [List.getD_eq_getElem?_getD, List.getElem?_eq_getElem hj]
    rfl
theorem wr1 {j : Nat} (h : j < 100000) : wrap64 ((j : Int) + 1) = ((j + 1 : Nat) : Int) := by rw [wrap_id (by omega) (by omega)]; omega
theorem wr2 {j : Nat} (h : j < 100000) : IntKind.i64.wrap ((j : Int) + 1) = ((j + 1 : Nat) : Int) := by rw [i64_id (by omega) (by omega)]; omega
theorem nI_len (l : List Nat) : (numsI l).length = l.length := by unfold numsI; simp
theorem secIn_head (p : Nat) (bl : List Int) (s : Nat) (rs : List Nat) (P : List Int) (h : prN s = p) : secIn p bl (s :: rs) P = secIn p bl rs (P ++ (bl.drop 0).map (fun x => wrap64 (x * (s : Int)))) := by
  rw [secIn, if_pos h, List.drop_zero]
theorem sec_step (bl : List Int) (i : Nat) (hi : i < bl.length) (P : List Int) (s : Nat) : P ++ (bl.drop i).map (fun x => wrap64 (x * (s : Int))) = (P ++ [wrap64 (rd bl (i : Int) * (s : Int))]) ++ (bl.drop (i + 1)).map (fun x => wrap64 (x * (s : Int))) := by
  rw [List.drop_eq_getElem_cons hi, List.map_cons, List.append_assoc, rd_get hi]
  rfl
set_option maxHeartbeats 8000000 in
set_option maxRecDepth 100000 in
theorem sackbutref02_Second.calls (a0 a1 : Int) (r : Bool) (w : World) (h : sackbutref02_Second.f a0 a1 = some r) :
    Calls Try.prog 29 #[.int .i64 a0, .int .i64 a1] w fun e w' => e = .returned (.bool r) ∧ Below w.heap.size w w' := by
  unfold sackbutref02_Second.f at h
  by_cases hd : 2 ≤ a0 ∧ a0 ≤ 24 ∧ 0 ≤ a1 ∧ a1 < (2 : Int) ^ a0.toNat
  case neg => rw [if_neg hd] at h; cases h
  rw [if_pos hd] at h
  injection h with h
  obtain ⟨n, rfl⟩ : ∃ n : Nat, a0 = (n : Int) := ⟨a0.toNat, by omega⟩
  obtain ⟨a, rfl⟩ : ∃ a : Nat, a1 = (a : Int) := ⟨a1.toNat, by omega⟩
  rw [Int.toNat_natCast] at hd h
  rw [Int.toNat_natCast] at h
  obtain ⟨d1, d2, _, d3⟩ := hd
  have h2 : 2 ≤ n := by omega
  have h24 : n ≤ 24 := by omega
  have ha : a < 2 ^ n := by exact_mod_cast d3
  obtain ⟨rs, hrs⟩ : ∃ rs, rootsN n a = rs := ⟨_, rfl⟩
  obtain ⟨FIN, hF⟩ : ∃ F, secFin n rs = F := ⟨_, rfl⟩
  have HFL := Aside0.mk (by have := sec_fin (a := a) h2 h24; rw [hrs, hF] at this; exact this)
  have HR := Aside0.mk (show FIN.all (fun x => !(decide (x > 1)) || isRt n a x.toNat) = r by rw [← hF, ← hrs]; exact h)
  have HM := Aside0.mk (show ∀ s ∈ rs, 2 ≤ s ∧ s ≤ 24 from fun s hs => by rw [← hrs] at hs; have := rootsN_mem.1 hs; omega)
  have HL := Aside0.mk (show rs.length < 1000 from by rw [← hrs]; exact rootsN_len n a h24)
  obtain ⟨kr, hkr⟩ := Ev.rounds (rroots_ev h2 h24 ha)
  rw [hrs] at hkr
  have HCR := Aside0.mk (fun V => sackbutref02_Roots.calls kr (n : Int) (a : Int) (numsI rs) V hkr)
  have HIS := Aside0.mk (fun (s : Nat) (h1 : 1 ≤ s) (hs : s ≤ n) (V : World) => by
    obtain ⟨k, hk⟩ := Ev.rounds (isRoot_ev (a := a) h1 hs h24 ha)
    exact sackbutref02_IsRoot.calls k (n : Int) (a : Int) (s : Int) (isRt n a s) V hk)
  have HFD := Aside0.mk (show secOut rs (n - 1) 2 [1] = FIN from hF)
  clear h hrs hF hkr d3 ha d1 d2
  go_enter Try.func29, Try.ntmps29
  have HN : Kd.R (Kd.int .i64) 3 (w.alloc (.cells #[.int .i64 1] 3)) w.heap.size (fun _ => True) (.slice (some ⟨w.heap.size, 0, none⟩) 1 1) [1] :=
    Kd.R_of_own (h1 := fun _ => rfl) (World.ownsRow_lit (base := w.heap.size) (e := 3) (size := 1) w #[.int .i64 1] 1 (Nat.le_refl _) (by simp [maxLen]) (by simp)) (fun _ _ => trivial)
  have HNa := Aside0.mk HN
  clear HN
  go_wp2
  go_loopg [5, 6] (n - 1) (fun gg s5 s6 wr => ∃ (p : Nat) (P : List Int), s6 = .int .i64 (p : Int) ∧ 2 ≤ p ∧ p + gg = n + 1 ∧ Aside0 (0 < P.length) ∧ Aside0 (Kd.R (Kd.int .i64) 3 wr w.heap.size (fun _ => True) s5 P) ∧ Aside0 (Below w.heap.size w wr) ∧ Aside0 (secOut rs gg p P = FIN))
  case atStart => exact ⟨2, [1], rfl, Nat.le_refl _, by omega, ⟨by decide⟩, ⟨HNa.out⟩, ⟨below_alloc (Below.refl _ _) _⟩, ⟨HFD.out⟩⟩
  case round =>
    obtain ⟨p, P, rfl, hp2, hpg, HP0, HO, HB, HE⟩ := hrel
    by_cases hpn : p ≤ n
    · have hpz : (p : Int) ≤ (n : Int) := by omega
      obtain ⟨m, rfl⟩ : ∃ m, gk = m + 1 := ⟨gk - 1, by omega⟩
      obtain ⟨ad, c7, e5, hbf, hlt7, had⟩ := sec_start HO.out HP0.out
      have HS0 := Aside0.mk (And.intro hbf (And.intro hlt7 had))
      have HE' := Aside0.mk (show secOut rs m (p + 1) (secIn p P rs P) = FIN from HE.out)
      have HPL := Aside0.mk (show P.length ≤ 1000 by
        have q1 := secOut_le rs m (p + 1) (secIn p P rs P)
        rw [HE'.out] at q1
        have q2 := secIn_le p P rs P
        have q3 := HFL.out.1
        omega)
      subst e5
      clear hbf hlt7 had HE
      go_wp2_with (go_at_call 27; refine (HCR.out _).mono ?_; rintro e w2 ⟨vr, rfl, hr0, hb0⟩; have HX := Aside0.mk (And.intro hr0 hb0); clear hr0 hb0; obtain ⟨Ar, cr, er⟩ := Kd.R_slice HX.out.1; rw [nI_len] at er; subst er)
      have HS := Aside0.mk (show SecSt w w2 (.slice (some ad) P.length c7) P ad P (.slice Ar rs.length cr) (numsI rs) from by
        refine ⟨below_step HB.out HX.out.2, Kd.R_below HO.out HX.out.2, Kd.R_lower HX.out.1 (below_size HB.out), fun k h1 h2 => ?_, fun j hj => (cell_heap (by rw [add_blk]; exact HX.out.2.block _ HS0.out.2.1)).trans (HS0.out.1 j hj), Nat.lt_of_lt_of_le HS0.out.2.1 HX.out.2.size, HS0.out.2.2, fun _ => List.prefix_refl _⟩
        have q1 := Kd.R_base HX.out.1 k h1
        have q2 := Kd.R_lt HO.out k h2
        omega)
      go_loopg [5, 25] rs.length (fun g2 s5 s25 wr2 => ∃ (j : Nat) (P2 : List Int), s25 = .int .i64 (j : Int) ∧ j + g2 = rs.length ∧ Aside0 (0 < P2.length) ∧ Aside0 (SecSt w wr2 s5 P2 ad P (.slice Ar rs.length cr) (numsI rs)) ∧ Aside0 (secOut rs m (p + 1) (secIn p P (rs.drop j) P2) = FIN))
      case atStart => exact ⟨0, P, rfl, by omega, ⟨HP0.out⟩, ⟨HS.out⟩, ⟨by rw [List.drop_zero]; exact HE'.out⟩⟩
      case round =>
        obtain ⟨j, P2, rfl, hjg, HP2, HS2, HE2⟩ := hrel
        by_cases hlt : j < rs.length
        · have hltz : (j : Int) < (rs.length : Int) := by omega
          obtain ⟨g3, rfl⟩ : ∃ g, gk = g + 1 := ⟨gk - 1, by omega⟩
          obtain ⟨x, hx⟩ : ∃ x, rs[j] = x := ⟨_, rfl⟩
          have hxr := HM.out x (by rw [← hx]; exact List.getElem_mem hlt)
          obtain ⟨ar, ead, hcell⟩ := Kd.at_int (Kd.R_reads' HS2.out.row).2.2 (j : Int) (by omega) (by rw [nI_len]; exact hltz)
          have hrd : rd (numsI rs) (j : Int) = (x : Int) := by rw [rd_get (by rw [nI_len]; exact hlt)]; simp [numsI, hx]
          rw [hrd, Int.toNat_natCast] at hcell
          obtain ⟨kb, hkb⟩ := Ev.rounds (base_ev hxr.1 hxr.2)
          have HBS := Aside0.mk (fun V => sackbutref02_base.calls kb (x : Int) (prN x : Int) V hkb)
          have hdrop : rs.drop j = x :: rs.drop (j + 1) := by rw [List.drop_eq_getElem_cons hlt, hx]
          subst ead
          clear hx hxr hrd hkb
          by_cases hbp : prN x = p
          · have hbz : ((prN x : Int) != (p : Int)) = false := by rw [hbp]; simp
            have HE3 := Aside0.mk (show secOut rs m (p + 1) (secIn p P (rs.drop (j + 1)) (P2 ++ (P.drop 0).map (fun y => wrap64 (y * (x : Int))))) = FIN by rw [← secIn_head p P x _ P2 hbp, ← hdrop]; exact HE2.out)
            have HBP := Aside0.mk hbp
            clear hdrop hbp HE2
            go_wp2_with (go_at_call 42; refine (HBS.out _).mono ?_; rintro e V2 ⟨rfl, ⟨nd, rfl⟩⟩)
            go_loopg [5, 35] P.length (fun g4 s5 s35 wr3 => ∃ (i : Nat) (P3 : List Int), s35 = .int .i64 (i : Int) ∧ i + g4 = P.length ∧ Aside0 (0 < P3.length) ∧ Aside0 (SecSt w wr3 s5 P3 ad P (.slice (some ar) rs.length cr) (numsI rs)) ∧ Aside0 (secOut rs m (p + 1) (secIn p P (rs.drop (j + 1)) (P3 ++ (P.drop i).map (fun y => wrap64 (y * (x : Int))))) = FIN))
            case atStart => exact ⟨0, P2, rfl, by omega, ⟨HP2.out⟩, ⟨HS2.out.to (pw_below_drewN (Below.refl _ _) _)⟩, ⟨HE3.out⟩⟩
            case round =>
              obtain ⟨i, P3, rfl, hig, HP3, HS3, HE4⟩ := hrel
              by_cases hil : i < P.length
              · have hilz : (i : Int) < (P.length : Int) := by omega
                obtain ⟨g5, rfl⟩ : ∃ g, gk = g + 1 := ⟨gk - 1, by omega⟩
                obtain ⟨v5, e5⟩ : ∃ v, u5 = v := ⟨_, rfl⟩
                have hcb := HS3.out.bef i hil
                have HE5 := Aside0.mk (show secOut rs m (p + 1) (secIn p P (rs.drop (j + 1)) ((P3 ++ [wrap64 (rd P (i : Int) * (x : Int))]) ++ (P.drop (i + 1)).map (fun y => wrap64 (y * (x : Int))))) = FIN by rw [← sec_step P i hil P3 x]; exact HE4.out)
                have hlen3 : P3.length < 1000 := by
                  have q1 := secOut_le rs m (p + 1) (secIn p P (rs.drop (j + 1)) ((P3 ++ [wrap64 (rd P (i : Int) * (x : Int))]) ++ (P.drop (i + 1)).map (fun y => wrap64 (y * (x : Int)))))
                  rw [HE5.out] at q1
                  have q2 := secIn_le p P (rs.drop (j + 1)) ((P3 ++ [wrap64 (rd P (i : Int) * (x : Int))]) ++ (P.drop (i + 1)).map (fun y => wrap64 (y * (x : Int))))
                  have q3 := HFL.out.1
                  simp only [List.length_append, List.length_cons, List.length_nil] at q2
                  omega
                have HL3 := Aside0.mk hlen3
                have hrdP : P.getD i 0 = rd P (i : Int) := rfl
                rw [hrdP] at hcb
                clear hrdP hlen3
                subst e5
                have HG5 := Aside0.mk (show i + (g5 + 1) = P.length from hig)
                clear hig
                go_wp2_with (at_builtin; refine app_keep (w0 := w) w.heap.size rfl (.tmp 39) (.tmp 43) 39 rfl Try.underlying39 info3 u5 P3 _ rfl rfl (HS3.out.own) HS3.out.bel (below_size HS3.out.bel) (by have := HL3.out; omega) ?_; intro v1 w10 ho hb hg hat; have HS4 := Aside0.mk (HS3.out.app ho hb hg hat); clear ho hb hg hat)
                go_roundg g5
                case measure => omega
                case rel => exact ⟨i + 1, _, by first | exact congrArg (Value.int .i64) (wr1 (by have := HPL.out; omega)) | exact congrArg (Value.int .i64) (wr2 (by have := HPL.out; omega)) | go_num, by have := HG5.out; omega, ⟨by simp⟩, ⟨HS4.out⟩, ⟨HE5.out⟩⟩
              · have hilz : ¬ (i : Int) < (P.length : Int) := by omega
                have HE6 := Aside0.mk (show secOut rs m (p + 1) (secIn p P (rs.drop (j + 1)) P3) = FIN by have := HE4.out; rw [show P.drop i = [] from List.drop_of_length_le (by omega), List.map_nil, List.append_nil] at this; exact this)
                clear hig
                go_wp2
                go_roundg g3
                case measure => omega
                case rel => exact ⟨j + 1, _, by first | exact congrArg (Value.int .i64) (wr1 (by have := HL.out; omega)) | exact congrArg (Value.int .i64) (wr2 (by have := HL.out; omega)) | go_num, by omega, ⟨HP3.out⟩, ⟨HS3.out⟩, ⟨HE6.out⟩⟩
          · have hbz : ((prN x : Int) != (p : Int)) = true := bne_iff_ne.2 (by omega)
            have HE3 := Aside0.mk (show secOut rs m (p + 1) (secIn p P (rs.drop (j + 1)) P2) = FIN by have := HE2.out; rw [hdrop, secIn, if_neg hbp] at this; exact this)
            clear hdrop hbp HE2
            go_wp2_with (go_at_call 42; refine (HBS.out _).mono ?_; rintro e V2 ⟨rfl, ⟨nd, rfl⟩⟩)
            go_roundg g3
            case measure => omega
            case rel => exact ⟨j + 1, _, by first | exact congrArg (Value.int .i64) (wr1 (by have := HL.out; omega)) | exact congrArg (Value.int .i64) (wr2 (by have := HL.out; omega)) | go_num, by omega, ⟨HP2.out⟩, ⟨HS2.out.to (pw_below_drewN (Below.refl _ _) _)⟩, ⟨HE3.out⟩⟩
        · have hltz : ¬ (j : Int) < (rs.length : Int) := by omega
          have HE7 := Aside0.mk (show secOut rs m (p + 1) P2 = FIN by have := HE2.out; rw [List.drop_of_length_le (by omega), secIn] at this; exact this)
          go_wp2
          go_roundg m
          case measure => omega
          case rel => exact ⟨p + 1, P2, by first | exact congrArg (Value.int .i64) (wr1 (by omega)) | exact congrArg (Value.int .i64) (wr2 (by omega)) | go_num, by omega, by omega, ⟨HP2.out⟩, ⟨HS2.out.own⟩, ⟨HS2.out.bel⟩, ⟨HE7.out⟩⟩
    · have hpz : ¬ (p : Int) ≤ (n : Int) := by omega
      have hgz : gk = 0 := by omega
      subst hgz
      have HE8 := Aside0.mk (show P = FIN from HE.out)
      obtain ⟨A9, c9, e9⟩ := Kd.R_slice HO.out
      subst e9
      go_wp2
      go_loopg [49] FIN.length (fun g2 s49 wr2 => ∃ i : Nat, s49 = .int .i64 (i : Int) ∧ i + g2 = FIN.length ∧ Aside0 (Kd.R (Kd.int .i64) 3 wr2 w.heap.size (fun _ => True) (.slice A9 P.length c9) P) ∧ Aside0 (Below w.heap.size w wr2) ∧ Aside0 ((FIN.drop i).all (fun x => !(decide (x > 1)) || isRt n a x.toNat) = r))
      case atStart => exact ⟨0, rfl, by omega, ⟨HO.out⟩, ⟨HB.out⟩, ⟨by rw [List.drop_zero]; exact HR.out⟩⟩
      case round =>
        obtain ⟨i, rfl, hig, HO2, HB2, HR2⟩ := hrel
        by_cases hil : i < FIN.length
        · obtain ⟨g3, rfl⟩ : ∃ g, gk = g + 1 := ⟨gk - 1, by omega⟩
          have hPF : P.length = FIN.length := by rw [HE8.out]
          have hilz : (i : Int) < (P.length : Int) := by omega
          obtain ⟨y, hy⟩ : ∃ y, rd P (i : Int) = y := ⟨_, rfl⟩
          have hyF : FIN[i] = y := by rw [← hy, rd_get (by omega)]; simp only [HE8.out]
          obtain ⟨ar, ead, hcell⟩ := Kd.at_int (Kd.R_reads' HO2.out).2.2 (i : Int) (by omega) hilz
          rw [hy, Int.toNat_natCast] at hcell
          subst ead
          have HY := Aside0.mk (HFL.out.2 y (by rw [← hyF]; exact List.getElem_mem hil))
          have HR3 := Aside0.mk (show ((!(decide (y > 1)) || isRt n a y.toNat) && (FIN.drop (i + 1)).all (fun x => !(decide (x > 1)) || isRt n a x.toNat)) = r by have := HR2.out; rw [List.drop_eq_getElem_cons hil, List.all_cons, hyF] at this; exact this)
          have HIL := Aside0.mk (show i < 100000 by have := HFL.out.1; omega)
          clear hy hyF hPF
          by_cases hy1 : y > 1
          · obtain ⟨s, rfl⟩ : ∃ s : Nat, y = (s : Int) := ⟨y.toNat, by omega⟩
            have HI := Aside0.mk (HIS.out s (by omega) (by have := HY.out.2.1; omega))
            cases hb : isRt n a s with
            | true =>
              rw [hb] at HI
              have HR4 := Aside0.mk (show (FIN.drop (i + 1)).all (fun x => !(decide (x > 1)) || isRt n a x.toNat) = r by have := HR3.out; rw [Int.toNat_natCast, hb, Bool.or_true, Bool.true_and] at this; exact this)
              clear hb
              go_wp2_with (go_at_call 43; refine (HI.out _).mono ?_; rintro e V2 ⟨rfl, hb2⟩; have HB3 := Aside0.mk hb2; clear hb2)
              go_roundg g3
              case measure => omega
              case rel => exact ⟨i + 1, by first | exact congrArg (Value.int .i64) (wr1 HIL.out) | exact congrArg (Value.int .i64) (wr2 HIL.out) | go_num, by omega, ⟨Kd.R_below HO2.out HB3.out⟩, ⟨below_step HB2.out HB3.out⟩, ⟨HR4.out⟩⟩
            | false =>
              rw [hb] at HI
              have HR4 := Aside0.mk (show false = r by have := HR3.out; rw [Int.toNat_natCast, hb, decide_eq_true hy1] at this; exact this)
              clear hb
              go_wp2_with (go_at_call 43; refine (HI.out _).mono ?_; rintro e V2 ⟨rfl, hb2⟩; have HB3 := Aside0.mk hb2; clear hb2)
              go_ret
              exact ⟨by rw [← HR4.out]; rfl, below_step HB2.out HB3.out⟩
          · have HR4 := Aside0.mk (show (FIN.drop (i + 1)).all (fun x => !(decide (x > 1)) || isRt n a x.toNat) = r by have := HR3.out; rw [decide_eq_false hy1] at this; exact this)
            go_wp2
            go_roundg g3
            case measure => omega
            case rel => exact ⟨i + 1, by first | exact congrArg (Value.int .i64) (wr1 HIL.out) | exact congrArg (Value.int .i64) (wr2 HIL.out) | go_num, by omega, ⟨HO2.out⟩, ⟨HB2.out⟩, ⟨HR4.out⟩⟩
        · have hPF : P.length = FIN.length := by rw [HE8.out]
          have hilz : ¬ (i : Int) < (P.length : Int) := by omega
          have HR4 := Aside0.mk (show true = r by have := HR2.out; rw [List.drop_of_length_le (by omega)] at this; exact this)
          go_wp2
          go_ret
          exact ⟨by rw [← HR4.out]; rfl, HB2.out⟩

end Go.Proofs.Ytkidgakjeahebaa.P
namespace Go.Proofs.Ytkidgakjeahebaa.P
open Go.RowKit Go.Proofs.YtkidgakjeahebaaW.PrintWords Go.Proofs.YtkidgakjeahebaaW.PrintLast Go.Proofs.YtkidgakjeahebaaW.PrintMore
attribute [local go_sem] max2_int min2_int max_two min_two max_three min_three max_four min_four   -- for this text's walks alone
set_option linter.unusedVariables false
set_option linter.unusedSimpArgs false

/-! ### canon_Roots: function 20 -/
def canon_Roots.f (k : Nat) (a0 : Int) (a1 : Int) : Option (List Int × Int) := (canon_circle_valid.f a0 (([a1] : List Int))).bind fun t1004 => (if t1004 = true then ((canon_circle_roots.f k a0 a1).bind fun t1005 => (some (t1005, 0))) else (some (([] : List Int), 2)))
theorem canon_Roots.mono : ∀ a0 a1 k, LeO (canon_Roots.f k a0 a1) (canon_Roots.f (k + 1) a0 a1) := by
  intro a0 a1 k
  unfold canon_Roots.f
  repeat' first
      | (with_reducible exact canon_circle_roots.mono _ _ _)
      | (with_reducible exact LeO.refl _)
      | (with_reducible exact LeO.none _)
      | (with_reducible refine LeO.ite ?_ ?_)
      | (with_reducible refine LeO.bind ?_ (fun _ => ?_))
      | exact canon_circle_roots.mono _ _ _
      | exact LeO.none _
      | refine LeO.ite ?_ ?_
      | refine LeO.bind ?_ (fun _ => ?_)
set_option maxHeartbeats 8000000 in
set_option maxRecDepth 100000 in
theorem canon_Roots.calls (k : Nat) (a0 : Int) (a1 : Int) (r1 : List Int) (r2 : Int) (w : World) (h : canon_Roots.f k a0 a1 = some (r1, r2)) :
    Calls Try.prog 20 #[.int .i64 a0, .int .i64 a1] w fun e w' => ∃ v0_ : Value, e = .returned (.tuple #[v0_, .int .i64 r2]) ∧ Kd.R (Kd.int .i64) 3 w' w.heap.size (fun _ => True) v0_ r1 ∧ Below w.heap.size w w' := by
  have HB := Aside0.mk (Below.refl w.heap.size w)
  have H : ((canon_circle_valid.f a0 (([a1] : List Int))).bind fun t1004 => (if t1004 = true then ((canon_circle_roots.f k a0 a1).bind fun t1005 => (some (t1005, 0))) else (some (([] : List Int), 2)))) = some (r1, r2) := h
  clear h
  obtain ⟨y1001, hy1001⟩ : ∃ y_ : List Int, y_ = (([a1] : List Int)) := ⟨_, rfl⟩
  replace H : ((canon_circle_valid.f a0 y1001).bind fun t1004 => (if t1004 = true then ((canon_circle_roots.f k a0 a1).bind fun t1005 => (some (t1005, 0))) else (some (([] : List Int), 2)))) = some (r1, r2) := by first | (rw [hy1001]; with_reducible exact H) | (have H2_ := (Option.bind_some _ _).symm.trans H; rw [hy1001]; with_reducible exact H2_) | (have H2_ := (Option.bind_some _ _).symm.trans H; with_reducible exact H2_) | with_reducible exact H | (rw [hy1001]; exact H) | exact H
  have Ny1001 := Aside0.mk hy1001
  clear hy1001
  replace H := Option.bind_eq_some_iff.mp H
  obtain ⟨t1004, A30, H⟩ := H
  replace H : (if t1004 = true then ((canon_circle_roots.f k a0 a1).bind fun t1005 => (some (t1005, 0))) else (some (([] : List Int), 2))) = some (r1, r2) := H
  have A3 := Aside0.mk A30
  clear A30
  by_cases c4 : t1004 = true
  · subst c4
    have H1 : ((canon_circle_roots.f k a0 a1).bind fun t1005 => (some (t1005, 0))) = some (r1, r2) := by rw [if_pos rfl] at H; exact H
    clear H
    have H := H1
    clear H1
    replace H := Option.bind_eq_some_iff.mp H
    obtain ⟨t1005, A50, H⟩ := H
    replace H : (some (t1005, 0)) = some (r1, r2) := H
    have A5 := Aside0.mk A50
    clear A50
    simp only [Option.some.injEq, Prod.mk.injEq] at H
    obtain ⟨rfl, rfl⟩ := H
    go_enter Try.func20, Try.ntmps20
    go_wp2_with (first | ((with_reducible refine gate_dst (N := 8) rfl ?_); refine Kd.R_lit (Kd.int .i64) _ 3 ?hg (N := 8) ?hd (xs := ([a1] : List Int)) (inner := [.int .i64 a1]) (ok := fun _ => True) (okp := fun _ => True) ?hr ?hp (fun _ hk => hk) trivial (Below.refl _ _) (Nat.le_refl _) (by simp) ?_; (case hd => rfl); (case hg => rfl); (case hr => first | (go_simp; done) | (go_simp; rfl)); (case hp => exact (Reps.one (show Kd.M (Kd.int .i64) _ _ _ a1 [.int .i64 a1] from rfl) (Reps.none _ _))); intro v1002 w6 ho7 hb hg_ hnew_; clear hg_ hnew_; (first | rw [← Ny1001.out] at ho7 | (simp only [Int.reduceToNat] at ho7; rw [← Ny1001.out] at ho7)); have n0_ := Aside0.mk (Kd.R_lower ho7 (below_size (by repeat (first | (with_reducible first | exact HB.out | apply below_alloc | apply pw_below_drewN | apply below_drew1) | exact HB.out)))); have n1_ := Aside0.mk (below_step (by repeat (first | (with_reducible first | exact HB.out | apply below_alloc | apply pw_below_drewN | apply below_drew1) | exact HB.out)) hb); clear HB; have HO1003 := n0_; have HB := n1_; clear n0_ n1_; clear hb ho7; obtain ⟨Ao8, co8, eo8⟩ := Kd.R_slice HO1003.out; subst eo8) | ((with_reducible refine gate_callee (f := 30) rfl ?_); refine goesL_ (some 9) rfl rfl Try.func30 (by kernel_rfl) rfl #[.int .i64 a0, .slice Ao8 y1001.length co8] rfl (by (try simp only [List.map_toArray, List.map_cons, List.map_nil]); first | done | rfl | (simp only [List.length_drop, List.length_take]; rfl)) ?_; (with_reducible refine (canon_circle_valid.calls a0 _ _ y1001 true _ ?side1 ?side2 A3.out).mono ?_); (case side1 => repeat (first | exact (Kd.R_reads' HO1003.out).2.2 | (with_reducible refine Kd.C_alloc ?_ _) | (with_reducible refine Kd.C_drewN ?_ _) | (with_reducible refine Kd.C_drew ?_))); (case side2 => exact (Kd.R_reads' HO1003.out).2.1); rintro e w9 ⟨rfl, hb⟩; refine ⟨_, rfl, ?_⟩; have n0_ := Aside0.mk (Kd.R_below (by (with_reducible repeat (first | apply Kd.R_alloc | apply Kd.R_drewN | apply Kd.R_drew)); exact HO1003.out) hb); have n1_ := Aside0.mk (below_step (by repeat (first | (with_reducible first | exact HB.out | apply below_alloc | apply pw_below_drewN | apply below_drew1) | exact HB.out)) hb); clear HO1003; clear HB; have HO1003 := n0_; have HB := n1_; clear n0_ n1_; (try clear hb); (try clear hb2); (try clear hk); (try clear hi)) | ((with_reducible refine gate_callee (f := 36) rfl ?_); refine goesL_ (some 13) rfl rfl Try.func36 (by kernel_rfl) rfl #[.int .i64 a0, .int .i64 a1] rfl (by (try simp only [List.map_toArray, List.map_cons, List.map_nil]); first | done | rfl | (simp only [List.length_drop, List.length_take]; rfl)) ?_; (with_reducible refine (canon_circle_roots.calls k a0 a1 t1005 _ A5.out).mono ?_); rintro e w10 ⟨v1006, rfl, ho0, hb⟩; refine ⟨_, rfl, ?_⟩; have n0_ := Aside0.mk (Kd.R_elder' (by (with_reducible repeat (first | apply Kd.R_alloc | apply Kd.R_drewN | apply Kd.R_drew)); exact HO1003.out) (Kd.R_base ho0) hb); have n1_ := Aside0.mk (Kd.R_lower (Kd.R_new' ho0 (Kd.R_lt (by (with_reducible repeat (first | apply Kd.R_alloc | apply Kd.R_drewN | apply Kd.R_drew)); exact HO1003.out))) (below_size (by repeat (first | (with_reducible first | exact HB.out | apply below_alloc | apply pw_below_drewN | apply below_drew1) | exact HB.out)))); have n2_ := Aside0.mk (below_step (by repeat (first | (with_reducible first | exact HB.out | apply below_alloc | apply pw_below_drewN | apply below_drew1) | exact HB.out)) hb); clear HO1003; clear HB; have HO1003 := n0_; have HO1007 := n1_; have HB := n2_; clear n0_ n1_ n2_; (try clear hb); (try clear hb2); (try clear hk); (try clear hi); (try clear ho0)))
    go_ret2
    exact ⟨_, by first | rfl | (simp [errW_none, errW_some] <;> rfl) | (simp [*, errW_none, errW_some] <;> rfl), by (with_reducible repeat (first | apply Kd.R_alloc | apply Kd.R_drewN | apply Kd.R_drew)); exact Kd.R_mono HO1007.out (fun _ hk => trivial), by repeat (first | (with_reducible first | exact HB.out | apply below_alloc | apply pw_below_drewN | apply below_drew1) | exact HB.out)⟩
  · replace c4 := Bool.eq_false_iff.mpr c4
    subst c4
    have H1 : (some (([] : List Int), 2)) = some (r1, r2) := by rw [if_neg (show ¬ (false = true) by decide)] at H; exact H
    clear H
    have H := H1
    clear H1
    simp only [Option.some.injEq, Prod.mk.injEq] at H
    obtain ⟨rfl, rfl⟩ := H
    go_enter Try.func20, Try.ntmps20
    go_wp2_with (first | ((with_reducible refine gate_dst (N := 8) rfl ?_); refine Kd.R_lit (Kd.int .i64) _ 3 ?hg (N := 8) ?hd (xs := ([a1] : List Int)) (inner := [.int .i64 a1]) (ok := fun _ => True) (okp := fun _ => True) ?hr ?hp (fun _ hk => hk) trivial (Below.refl _ _) (Nat.le_refl _) (by simp) ?_; (case hd => rfl); (case hg => rfl); (case hr => first | (go_simp; done) | (go_simp; rfl)); (case hp => exact (Reps.one (show Kd.M (Kd.int .i64) _ _ _ a1 [.int .i64 a1] from rfl) (Reps.none _ _))); intro v1002 w11 ho12 hb hg_ hnew_; clear hg_ hnew_; (first | rw [← Ny1001.out] at ho12 | (simp only [Int.reduceToNat] at ho12; rw [← Ny1001.out] at ho12)); have n0_ := Aside0.mk (Kd.R_lower ho12 (below_size (by repeat (first | (with_reducible first | exact HB.out | apply below_alloc | apply pw_below_drewN | apply below_drew1) | exact HB.out)))); have n1_ := Aside0.mk (below_step (by repeat (first | (with_reducible first | exact HB.out | apply below_alloc | apply pw_below_drewN | apply below_drew1) | exact HB.out)) hb); clear HB; have HO1003 := n0_; have HB := n1_; clear n0_ n1_; clear hb ho12; obtain ⟨Ao13, co13, eo13⟩ := Kd.R_slice HO1003.out; subst eo13) | ((with_reducible refine gate_callee (f := 30) rfl ?_); refine goesL_ (some 9) rfl rfl Try.func30 (by kernel_rfl) rfl #[.int .i64 a0, .slice Ao13 y1001.length co13] rfl (by (try simp only [List.map_toArray, List.map_cons, List.map_nil]); first | done | rfl | (simp only [List.length_drop, List.length_take]; rfl)) ?_; (with_reducible refine (canon_circle_valid.calls a0 _ _ y1001 false _ ?side1 ?side2 A3.out).mono ?_); (case side1 => repeat (first | exact (Kd.R_reads' HO1003.out).2.2 | (with_reducible refine Kd.C_alloc ?_ _) | (with_reducible refine Kd.C_drewN ?_ _) | (with_reducible refine Kd.C_drew ?_))); (case side2 => exact (Kd.R_reads' HO1003.out).2.1); rintro e w14 ⟨rfl, hb⟩; refine ⟨_, rfl, ?_⟩; have n0_ := Aside0.mk (Kd.R_below (by (with_reducible repeat (first | apply Kd.R_alloc | apply Kd.R_drewN | apply Kd.R_drew)); exact HO1003.out) hb); have n1_ := Aside0.mk (below_step (by repeat (first | (with_reducible first | exact HB.out | apply below_alloc | apply pw_below_drewN | apply below_drew1) | exact HB.out)) hb); clear HO1003; clear HB; have HO1003 := n0_; have HB := n1_; clear n0_ n1_; (try clear hb); (try clear hb2); (try clear hk); (try clear hi)))
    go_ret2
    exact ⟨_, by first | rfl | (simp [errW_none, errW_some] <;> rfl) | (simp [*, errW_none, errW_some] <;> rfl), by first | exact Kd.R_nil _ _ _ _ _ | exact Kd.N_nil _ _ _ _ _ | exact Kd.V_nil _ _ _ _ _ | exact Kd.Q_nil _ _ _ _ _ | exact Kd.S_nil _ _ _ _ _, by repeat (first | (with_reducible first | exact HB.out | apply below_alloc | apply pw_below_drewN | apply below_drew1) | exact HB.out)⟩

end Go.Proofs.Ytkidgakjeahebaa.P
namespace Go.Proofs.Ytkidgakjeahebaa.P
open Go.RowKit Go.Proofs.YtkidgakjeahebaaW.PrintWords Go.Proofs.YtkidgakjeahebaaW.PrintLast Go.Proofs.YtkidgakjeahebaaW.PrintMore
attribute [local go_sem] max2_int min2_int max_two min_two max_three min_three max_four min_four   -- for this text's walks alone
set_option linter.unusedVariables false
set_option linter.unusedSimpArgs false

/-! ### canon_First: function 22 -/
def canon_First.f (k : Nat) (a0 : Int) (a1 : Int) : Option (Bool × Int) := (canon_circle_valid.f a0 (([a1] : List Int))).bind fun t1004 => (if t1004 = true then ((canon_circle_first.f k a0 a1).bind fun t1005 => (some (t1005, 0))) else (some (false, 2)))
theorem canon_First.mono : ∀ a0 a1 k, LeO (canon_First.f k a0 a1) (canon_First.f (k + 1) a0 a1) := by
  intro a0 a1 k
  unfold canon_First.f
  repeat' first
      | (with_reducible exact canon_circle_first.mono _ _ _)
      | (with_reducible exact LeO.refl _)
      | (with_reducible exact LeO.none _)
      | (with_reducible refine LeO.ite ?_ ?_)
      | (with_reducible refine LeO.bind ?_ (fun _ => ?_))
      | exact canon_circle_first.mono _ _ _
      | exact LeO.none _
      | refine LeO.ite ?_ ?_
      | refine LeO.bind ?_ (fun _ => ?_)
set_option maxHeartbeats 8000000 in
set_option maxRecDepth 100000 in
theorem canon_First.calls (k : Nat) (a0 : Int) (a1 : Int) (r1 : Bool) (r2 : Int) (w : World) (h : canon_First.f k a0 a1 = some (r1, r2)) :
    Calls Try.prog 22 #[.int .i64 a0, .int .i64 a1] w fun e w' => e = .returned (.tuple #[.bool r1, .int .i64 r2]) ∧ Below w.heap.size w w' := by
  have HB := Aside0.mk (Below.refl w.heap.size w)
  have H : ((canon_circle_valid.f a0 (([a1] : List Int))).bind fun t1004 => (if t1004 = true then ((canon_circle_first.f k a0 a1).bind fun t1005 => (some (t1005, 0))) else (some (false, 2)))) = some (r1, r2) := h
  clear h
  obtain ⟨y1001, hy1001⟩ : ∃ y_ : List Int, y_ = (([a1] : List Int)) := ⟨_, rfl⟩
  replace H : ((canon_circle_valid.f a0 y1001).bind fun t1004 => (if t1004 = true then ((canon_circle_first.f k a0 a1).bind fun t1005 => (some (t1005, 0))) else (some (false, 2)))) = some (r1, r2) := by first | (rw [hy1001]; with_reducible exact H) | (have H2_ := (Option.bind_some _ _).symm.trans H; rw [hy1001]; with_reducible exact H2_) | (have H2_ := (Option.bind_some _ _).symm.trans H; with_reducible exact H2_) | with_reducible exact H | (rw [hy1001]; exact H) | exact H
  have Ny1001 := Aside0.mk hy1001
  clear hy1001
  replace H := Option.bind_eq_some_iff.mp H
  obtain ⟨t1004, A30, H⟩ := H
  replace H : (if t1004 = true then ((canon_circle_first.f k a0 a1).bind fun t1005 => (some (t1005, 0))) else (some (false, 2))) = some (r1, r2) := H
  have A3 := Aside0.mk A30
  clear A30
  by_cases c4 : t1004 = true
  · subst c4
    have H1 : ((canon_circle_first.f k a0 a1).bind fun t1005 => (some (t1005, 0))) = some (r1, r2) := by rw [if_pos rfl] at H; exact H
    clear H
    have H := H1
    clear H1
    replace H := Option.bind_eq_some_iff.mp H
    obtain ⟨t1005, A50, H⟩ := H
    replace H : (some (t1005, 0)) = some (r1, r2) := H
    have A5 := Aside0.mk A50
    clear A50
    simp only [Option.some.injEq, Prod.mk.injEq] at H
    obtain ⟨rfl, rfl⟩ := H
    go_enter Try.func22, Try.ntmps22
    go_wp2_with (first | ((with_reducible refine gate_dst (N := 8) rfl ?_); refine Kd.R_lit (Kd.int .i64) _ 3 ?hg (N := 8) ?hd (xs := ([a1] : List Int)) (inner := [.int .i64 a1]) (ok := fun _ => True) (okp := fun _ => True) ?hr ?hp (fun _ hk => hk) trivial (Below.refl _ _) (Nat.le_refl _) (by simp) ?_; (case hd => rfl); (case hg => rfl); (case hr => first | (go_simp; done) | (go_simp; rfl)); (case hp => exact (Reps.one (show Kd.M (Kd.int .i64) _ _ _ a1 [.int .i64 a1] from rfl) (Reps.none _ _))); intro v1002 w6 ho7 hb hg_ hnew_; clear hg_ hnew_; (first | rw [← Ny1001.out] at ho7 | (simp only [Int.reduceToNat] at ho7; rw [← Ny1001.out] at ho7)); have n0_ := Aside0.mk (Kd.R_lower ho7 (below_size (by repeat (first | (with_reducible first | exact HB.out | apply below_alloc | apply pw_below_drewN | apply below_drew1) | exact HB.out)))); have n1_ := Aside0.mk (below_step (by repeat (first | (with_reducible first | exact HB.out | apply below_alloc | apply pw_below_drewN | apply below_drew1) | exact HB.out)) hb); clear HB; have HO1003 := n0_; have HB := n1_; clear n0_ n1_; clear hb ho7; obtain ⟨Ao8, co8, eo8⟩ := Kd.R_slice HO1003.out; subst eo8) | ((with_reducible refine gate_callee (f := 30) rfl ?_); refine goesL_ (some 9) rfl rfl Try.func30 (by kernel_rfl) rfl #[.int .i64 a0, .slice Ao8 y1001.length co8] rfl (by (try simp only [List.map_toArray, List.map_cons, List.map_nil]); first | done | rfl | (simp only [List.length_drop, List.length_take]; rfl)) ?_; (with_reducible refine (canon_circle_valid.calls a0 _ _ y1001 true _ ?side1 ?side2 A3.out).mono ?_); (case side1 => repeat (first | exact (Kd.R_reads' HO1003.out).2.2 | (with_reducible refine Kd.C_alloc ?_ _) | (with_reducible refine Kd.C_drewN ?_ _) | (with_reducible refine Kd.C_drew ?_))); (case side2 => exact (Kd.R_reads' HO1003.out).2.1); rintro e w9 ⟨rfl, hb⟩; refine ⟨_, rfl, ?_⟩; have n0_ := Aside0.mk (Kd.R_below (by (with_reducible repeat (first | apply Kd.R_alloc | apply Kd.R_drewN | apply Kd.R_drew)); exact HO1003.out) hb); have n1_ := Aside0.mk (below_step (by repeat (first | (with_reducible first | exact HB.out | apply below_alloc | apply pw_below_drewN | apply below_drew1) | exact HB.out)) hb); clear HO1003; clear HB; have HO1003 := n0_; have HB := n1_; clear n0_ n1_; (try clear hb); (try clear hb2); (try clear hk); (try clear hi)) | ((with_reducible refine gate_callee (f := 38) rfl ?_); refine goesL_ (some 13) rfl rfl Try.func38 (by kernel_rfl) rfl #[.int .i64 a0, .int .i64 a1] rfl (by (try simp only [List.map_toArray, List.map_cons, List.map_nil]); first | done | rfl | (simp only [List.length_drop, List.length_take]; rfl)) ?_; (with_reducible refine (canon_circle_first.calls k a0 a1 t1005 _ A5.out).mono ?_); rintro e w10 ⟨rfl, hb⟩; refine ⟨_, rfl, ?_⟩; have n0_ := Aside0.mk (Kd.R_below (by (with_reducible repeat (first | apply Kd.R_alloc | apply Kd.R_drewN | apply Kd.R_drew)); exact HO1003.out) hb); have n1_ := Aside0.mk (below_step (by repeat (first | (with_reducible first | exact HB.out | apply below_alloc | apply pw_below_drewN | apply below_drew1) | exact HB.out)) hb); clear HO1003; clear HB; have HO1003 := n0_; have HB := n1_; clear n0_ n1_; (try clear hb); (try clear hb2); (try clear hk); (try clear hi)))
    go_ret2
    exact ⟨by first | rfl | (simp [errW_none, errW_some] <;> rfl) | (simp [*, errW_none, errW_some] <;> rfl), by repeat (first | (with_reducible first | exact HB.out | apply below_alloc | apply pw_below_drewN | apply below_drew1) | exact HB.out)⟩
  · replace c4 := Bool.eq_false_iff.mpr c4
    subst c4
    have H1 : (some (false, 2)) = some (r1, r2) := by rw [if_neg (show ¬ (false = true) by decide)] at H; exact H
    clear H
    have H := H1
    clear H1
    simp only [Option.some.injEq, Prod.mk.injEq] at H
    obtain ⟨rfl, rfl⟩ := H
    go_enter Try.func22, Try.ntmps22
    go_wp2_with (first | ((with_reducible refine gate_dst (N := 8) rfl ?_); refine Kd.R_lit (Kd.int .i64) _ 3 ?hg (N := 8) ?hd (xs := ([a1] : List Int)) (inner := [.int .i64 a1]) (ok := fun _ => True) (okp := fun _ => True) ?hr ?hp (fun _ hk => hk) trivial (Below.refl _ _) (Nat.le_refl _) (by simp) ?_; (case hd => rfl); (case hg => rfl); (case hr => first | (go_simp; done) | (go_simp; rfl)); (case hp => exact (Reps.one (show Kd.M (Kd.int .i64) _ _ _ a1 [.int .i64 a1] from rfl) (Reps.none _ _))); intro v1002 w11 ho12 hb hg_ hnew_; clear hg_ hnew_; (first | rw [← Ny1001.out] at ho12 | (simp only [Int.reduceToNat] at ho12; rw [← Ny1001.out] at ho12)); have n0_ := Aside0.mk (Kd.R_lower ho12 (below_size (by repeat (first | (with_reducible first | exact HB.out | apply below_alloc | apply pw_below_drewN | apply below_drew1) | exact HB.out)))); have n1_ := Aside0.mk (below_step (by repeat (first | (with_reducible first | exact HB.out | apply below_alloc | apply pw_below_drewN | apply below_drew1) | exact HB.out)) hb); clear HB; have HO1003 := n0_; have HB := n1_; clear n0_ n1_; clear hb ho12; obtain ⟨Ao13, co13, eo13⟩ := Kd.R_slice HO1003.out; subst eo13) | ((with_reducible refine gate_callee (f := 30) rfl ?_); refine goesL_ (some 9) rfl rfl Try.func30 (by kernel_rfl) rfl #[.int .i64 a0, .slice Ao13 y1001.length co13] rfl (by (try simp only [List.map_toArray, List.map_cons, List.map_nil]); first | done | rfl | (simp only [List.length_drop, List.length_take]; rfl)) ?_; (with_reducible refine (canon_circle_valid.calls a0 _ _ y1001 false _ ?side1 ?side2 A3.out).mono ?_); (case side1 => repeat (first | exact (Kd.R_reads' HO1003.out).2.2 | (with_reducible refine Kd.C_alloc ?_ _) | (with_reducible refine Kd.C_drewN ?_ _) | (with_reducible refine Kd.C_drew ?_))); (case side2 => exact (Kd.R_reads' HO1003.out).2.1); rintro e w14 ⟨rfl, hb⟩; refine ⟨_, rfl, ?_⟩; have n0_ := Aside0.mk (Kd.R_below (by (with_reducible repeat (first | apply Kd.R_alloc | apply Kd.R_drewN | apply Kd.R_drew)); exact HO1003.out) hb); have n1_ := Aside0.mk (below_step (by repeat (first | (with_reducible first | exact HB.out | apply below_alloc | apply pw_below_drewN | apply below_drew1) | exact HB.out)) hb); clear HO1003; clear HB; have HO1003 := n0_; have HB := n1_; clear n0_ n1_; (try clear hb); (try clear hb2); (try clear hk); (try clear hi)))
    go_ret2
    exact ⟨by first | rfl | (simp [errW_none, errW_some] <;> rfl) | (simp [*, errW_none, errW_some] <;> rfl), by repeat (first | (with_reducible first | exact HB.out | apply below_alloc | apply pw_below_drewN | apply below_drew1) | exact HB.out)⟩

end Go.Proofs.Ytkidgakjeahebaa.P
namespace Go.Proofs.Ytkidgakjeahebaa.P
open Go.RowKit Go.Proofs.YtkidgakjeahebaaW.PrintWords Go.Proofs.YtkidgakjeahebaaW.PrintLast Go.Proofs.YtkidgakjeahebaaW.PrintMore
attribute [local go_sem] max2_int min2_int max_two min_two max_three min_three max_four min_four   -- for this text's walks alone
set_option linter.unusedVariables false
set_option linter.unusedSimpArgs false

/-! New boxes: what they hold. -/
theorem new_cell (W : World) (v : Value) (t : TypeId) : (W.alloc (.cells #[v] t)).cell? ⟨W.heap.size, 0, none⟩ = some v ∧ (W.alloc (.cells #[v] t)).frozen? ⟨W.heap.size, 0, none⟩ = false := by
  have h := World.alloc_heap_new W (.cells #[v] t)
  refine ⟨?_, ?_⟩
  · have := cell_one_new W v t 0 v rfl
    simp [Addr.add] at this ⊢
  · unfold World.frozen?; simp only [h]; simp
theorem old_cell {W : World} {a : Addr} {v : Value} (o : Obj) (h : W.cell? a = some v) : (W.alloc o).cell? a = some v := cell_kept h (World.grownBy_alloc W o none) (fun r e => by cases e)
theorem old_frozen {W : World} {a : Addr} {v : Value} (o : Obj) (h : W.cell? a = some v) (hf : W.frozen? a = false) : (W.alloc o).frozen? a = false := (frozen_kept h (World.grownBy_alloc W o none) (fun r e => by cases e)).trans hf
/-- four new boxes -/
theorem four_new (w : World) (v0 v1 v2 v3 : Value) (t0 t1 t2 t3 : TypeId) (S : Nat) (hS : S = w.heap.size) (W0 : World) (h : (((w.alloc (.cells #[v0] t0)).alloc (.cells #[v1] t1)).alloc (.cells #[v2] t2)).alloc (.cells #[v3] t3) = W0) :
    W0.cell? ⟨S, 0, none⟩ = some v0 ∧ W0.cell? ⟨S + 1, 0, none⟩ = some v1 ∧ W0.cell? ⟨S + 1 + 1, 0, none⟩ = some v2 ∧ W0.cell? ⟨S + 1 + 1 + 1, 0, none⟩ = some v3 ∧ W0.frozen? ⟨S + 1 + 1, 0, none⟩ = false ∧ W0.frozen? ⟨S + 1 + 1 + 1, 0, none⟩ = false ∧ W0.heap.size = S + 4 ∧ Below S w W0 := by
  subst h hS
  have a0 := new_cell w v0 t0
  have a1 := new_cell (w.alloc (.cells #[v0] t0)) v1 t1
  have a2 := new_cell ((w.alloc (.cells #[v0] t0)).alloc (.cells #[v1] t1)) v2 t2
  have a3 := new_cell (((w.alloc (.cells #[v0] t0)).alloc (.cells #[v1] t1)).alloc (.cells #[v2] t2)) v3 t3
  simp only [World.size_alloc] at a1 a2 a3
  exact ⟨old_cell _ (old_cell _ (old_cell _ a0.1)), old_cell _ (old_cell _ a1.1), old_cell _ a2.1, a3.1, old_frozen _ a2.1 a2.2, a3.2, by simp [World.size_alloc], below_alloc (below_alloc (below_alloc (below_alloc (Below.refl _ _) _) _) _) _⟩

end Go.Proofs.Ytkidgakjeahebaa.P
namespace Go.Proofs.Ytkidgakjeahebaa.P
open Go.RowKit Go.Proofs.YtkidgakjeahebaaW.PrintWords Go.Proofs.YtkidgakjeahebaaW.PrintLast Go.Proofs.YtkidgakjeahebaaW.PrintMore
attribute [local go_sem] max2_int min2_int max_two min_two max_three min_three max_four min_four   -- for this text's walks alone
set_option linter.unusedVariables false
set_option linter.unusedSimpArgs false

/-! ### slices_Index_int_int: function 37 -/
def slices_Index_int_int.l0 : Nat → List Int → Int → Int → Int → Option (Int)
  | 0, _, _, _, _ => none
  | k + 1, x0, x1, x7, x8 => if x8 < x7 then (if 0 ≤ x8 then (if x8 < (x0.length : Int) then (if x1 = (rd x0 x8) then (some x8) else (slices_Index_int_int.l0 k x0 x1 x7 (wrap64 (x8 + 1)))) else (none)) else (none)) else (some (-1))
def slices_Index_int_int.f (k : Nat) (l0 : List Int) (a1 : Int) : Option (Int) := slices_Index_int_int.l0 k l0 a1 (l0.length : Int) 0
theorem slices_Index_int_int.mono_l : ∀ k, (∀ y0 y1 y2 y3, LeO (slices_Index_int_int.l0 k y0 y1 y2 y3) (slices_Index_int_int.l0 (k + 1) y0 y1 y2 y3))
  | 0 => fun _ _ _ _ r h => by simp [slices_Index_int_int.l0] at h
  | k + 1 => by
    have ih0 := slices_Index_int_int.mono_l k
    · intro y0 y1 y2 y3
      unfold slices_Index_int_int.l0
      repeat' first
      | (with_reducible exact ih0 _ _ _ _)
      | (with_reducible exact LeO.refl _)
      | (with_reducible exact LeO.none _)
      | (with_reducible refine LeO.ite ?_ ?_)
      | (with_reducible refine LeO.bind ?_ (fun _ => ?_))
      | exact ih0 _ _ _ _
      | exact LeO.none _
      | refine LeO.ite ?_ ?_
      | refine LeO.bind ?_ (fun _ => ?_)
theorem slices_Index_int_int.mono : ∀ a0 a1 k, LeO (slices_Index_int_int.f k a0 a1) (slices_Index_int_int.f (k + 1) a0 a1) := by
  intro a0 a1 k
  have ih0 := slices_Index_int_int.mono_l k
  unfold slices_Index_int_int.f
  repeat' first
      | (with_reducible exact ih0 _ _ _ _)
      | (with_reducible exact LeO.refl _)
      | (with_reducible exact LeO.none _)
      | (with_reducible refine LeO.ite ?_ ?_)
      | (with_reducible refine LeO.bind ?_ (fun _ => ?_))
      | exact ih0 _ _ _ _
      | exact LeO.none _
      | refine LeO.ite ?_ ?_
      | refine LeO.bind ?_ (fun _ => ?_)
set_option maxHeartbeats 8000000 in
set_option maxRecDepth 100000 in
theorem slices_Index_int_int.calls (k : Nat) (A0 : Option Addr) (c0 : Nat) (l0 : List Int) (a1 : Int) (r : Int) (w : World) (hr0 : Kd.C (Kd.int .i64) w A0 l0.length l0) (hc0 : l0.length ≤ c0) (h : slices_Index_int_int.f k l0 a1 = some r) :
    Calls Try.prog 37 #[.slice A0 l0.length c0, .int .i64 a1] w fun e w' => e = .returned (.int .i64 r) ∧ Drawn0 w w' := by
  have HR0 := Aside0.mk hr0
  have HC0 := Aside0.mk hc0
  clear hr0 hc0
  have H : (slices_Index_int_int.l0 k l0 a1 (l0.length : Int) 0) = some r := h
  clear h
  have H' := Aside0.mk H
  clear H
  go_enter Try.func37, Try.ntmps37
  go_wp2
  go_loopg [8] k (fun kq v8 w' => ∃ (x8_1 : Int), v8 = .int .i64 x8_1 ∧ Aside0 (slices_Index_int_int.l0 kq l0 a1 (l0.length : Int) x8_1 = some r) ∧ Aside0 (kq ≤ k) ∧ Drawn0 w w')
  case atStart => exact ⟨(0), (by first | rfl | (simp; done) | (simp [*]; done)), H', ⟨Nat.le_refl _⟩, by repeat (first | exact Drawn0.refl _ | apply Drawn0.step)⟩
  case round =>
    clear H'
    try clear p2
    obtain ⟨x8_1, rfl, HA, HK1, ⟨m1, rfl⟩⟩ := hrel
    cases gk with
    | zero => exact absurd HA.out (by simp [slices_Index_int_int.l0])
    | succ k1 =>
      have H := HA.out
      clear HA
      simp only [slices_Index_int_int.l0] at H
      by_cases c3 : x8_1 < (l0.length : Int)
      · rw [if_pos c3] at H
        have c3b0 : decide (x8_1 < (l0.length : Int)) = true := decide_eq_true c3
        clear c3
        by_cases c4 : 0 ≤ x8_1
        · rw [if_pos c4] at H
          have c4b0 : decide (0 ≤ x8_1) = true := decide_eq_true c4
          clear c4
          by_cases c5 : x8_1 < (l0.length : Int)
          · rw [if_pos c5] at H
            have c5b0 : decide (x8_1 < (l0.length : Int)) = true := decide_eq_true c5
            clear c5
            by_cases c6 : a1 = (rd l0 x8_1)
            · rw [if_pos c6] at H
              have c6b0 : (a1 == (rd l0 x8_1)) = true := beq_iff_eq.mpr c6
              have c6b1 : (a1 != (rd l0 x8_1)) = false := bne_eq_false_iff_eq.mpr c6
              clear c6
              obtain rfl := Option.some.inj H
              have p1001 : 0 ≤ (x8_1 : Int) := of_decide_eq_true (by first | (with_reducible assumption) | assumption)
              have q1001 : x8_1 < (l0.length : Int) := of_decide_eq_true (by first | (with_reducible assumption) | assumption)
              obtain ⟨ad1001, e1001, hx1001_0⟩ := Kd.at_int HR0.out x8_1 p1001 q1001
              cases e1001
              replace p1001 := eq_true p1001
              replace q1001 := eq_true q1001
              go_wp2
              go_ret
              exact ⟨by first | rfl | (simp; done) | (simp [*]; done), by repeat (first | exact Drawn0.refl _ | apply Drawn0.step)⟩
            · rw [if_neg c6] at H
              have c6b0 : (a1 == (rd l0 x8_1)) = false := beq_eq_false_iff_ne.mpr c6
              have c6b1 : (a1 != (rd l0 x8_1)) = true := bne_iff_ne.mpr c6
              have H' := Aside0.mk H
              clear H
              have p1001 : 0 ≤ (x8_1 : Int) := of_decide_eq_true (by first | (with_reducible assumption) | assumption)
              have q1001 : x8_1 < (l0.length : Int) := of_decide_eq_true (by first | (with_reducible assumption) | assumption)
              obtain ⟨ad1001, e1001, hx1001_0⟩ := Kd.at_int HR0.out x8_1 p1001 q1001
              cases e1001
              replace p1001 := eq_true p1001
              replace q1001 := eq_true q1001
              go_wp2
              go_roundg k1
              case measure => have := HK1.out; omega
              case rel => exact ⟨(wrap64 (x8_1 + 1)), (by first | rfl | (simp; done) | (simp [*]; done)), H', ⟨by have := HK1.out; omega⟩, by repeat (first | exact Drawn0.refl _ | apply Drawn0.step)⟩
          · rw [if_neg c5] at H
            exact absurd H (by simp)
        · rw [if_neg c4] at H
          exact absurd H (by simp)
      · rw [if_neg c3] at H
        have c3b0 : decide (x8_1 < (l0.length : Int)) = false := decide_eq_false c3
        clear c3
        obtain rfl := Option.some.inj H
        go_wp2
        go_ret
        exact ⟨by first | rfl | (simp; done) | (simp [*]; done), by repeat (first | exact Drawn0.refl _ | apply Drawn0.step)⟩

end Go.Proofs.Ytkidgakjeahebaa.P
namespace Go.Proofs.Ytkidgakjeahebaa.P
open Go.RowKit Go.Proofs.YtkidgakjeahebaaW.PrintWords Go.Proofs.YtkidgakjeahebaaW.PrintLast Go.Proofs.YtkidgakjeahebaaW.PrintMore
attribute [local go_sem] max2_int min2_int max_two min_two max_three min_three max_four min_four   -- for this text's walks alone
set_option linter.unusedVariables false
set_option linter.unusedSimpArgs false

/-! ### slices_Contains_int_int: function 21 -/
def slices_Contains_int_int.f (k : Nat) (l0 : List Int) (a1 : Int) : Option (Bool) := (slices_Index_int_int.f k l0 a1).bind fun t1001 => (some (decide (t1001 ≥ 0)))
theorem slices_Contains_int_int.mono : ∀ a0 a1 k, LeO (slices_Contains_int_int.f k a0 a1) (slices_Contains_int_int.f (k + 1) a0 a1) := by
  intro a0 a1 k
  unfold slices_Contains_int_int.f
  repeat' first
      | (with_reducible exact slices_Index_int_int.mono _ _ _)
      | (with_reducible exact LeO.refl _)
      | (with_reducible exact LeO.none _)
      | (with_reducible refine LeO.ite ?_ ?_)
      | (with_reducible refine LeO.bind ?_ (fun _ => ?_))
      | exact slices_Index_int_int.mono _ _ _
      | exact LeO.none _
      | refine LeO.ite ?_ ?_
      | refine LeO.bind ?_ (fun _ => ?_)
set_option maxHeartbeats 8000000 in
set_option maxRecDepth 100000 in
theorem slices_Contains_int_int.calls (k : Nat) (A0 : Option Addr) (c0 : Nat) (l0 : List Int) (a1 : Int) (r : Bool) (w : World) (hr0 : Kd.C (Kd.int .i64) w A0 l0.length l0) (hc0 : l0.length ≤ c0) (h : slices_Contains_int_int.f k l0 a1 = some r) :
    Calls Try.prog 21 #[.slice A0 l0.length c0, .int .i64 a1] w fun e w' => e = .returned (.bool r) ∧ Drawn0 w w' := by
  have HR0 := Aside0.mk hr0
  have HC0 := Aside0.mk hc0
  clear hr0 hc0
  have H : ((slices_Index_int_int.f k l0 a1).bind fun t1001 => (some (decide (t1001 ≥ 0)))) = some r := h
  clear h
  replace H := Option.bind_eq_some_iff.mp H
  obtain ⟨t1001, A30, H⟩ := H
  replace H : (some (decide (t1001 ≥ 0))) = some r := H
  have A3 := Aside0.mk A30
  clear A30
  obtain rfl := Option.some.inj H
  go_enter Try.func21, Try.ntmps21
  go_wp2_with (first | ((with_reducible refine gate_callee (f := 37) rfl ?_); refine goesL_ (some 7) rfl rfl Try.func37 (by kernel_rfl) rfl #[.slice A0 l0.length c0, .int .i64 a1] rfl (by (try simp only [List.map_toArray, List.map_cons, List.map_nil]); first | done | rfl | (simp only [List.length_drop, List.length_take]; rfl)) ?_; (with_reducible refine (slices_Index_int_int.calls k _ _ l0 a1 t1001 _ ?side1 ?side2 A3.out).mono ?_); (case side1 => repeat (first | exact HR0.out | (with_reducible refine Kd.C_alloc ?_ _) | (with_reducible refine Kd.C_drewN ?_ _) | (with_reducible refine Kd.C_drew ?_))); (case side2 => exact HC0.out); rintro e w' ⟨rfl, ⟨nd, rfl⟩⟩; refine ⟨_, rfl, ?_⟩))
  go_ret
  exact ⟨by first | rfl | (simp; done) | (simp [*]; done), by repeat (first | exact Drawn0.refl _ | apply Drawn0.step)⟩

end Go.Proofs.Ytkidgakjeahebaa.P
namespace Go.Proofs.Ytkidgakjeahebaa.P
open Go.RowKit Go.Proofs.YtkidgakjeahebaaW.PrintWords Go.Proofs.YtkidgakjeahebaaW.PrintLast Go.Proofs.YtkidgakjeahebaaW.PrintMore
attribute [local go_sem] max2_int min2_int max_two min_two max_three min_three max_four min_four   -- for this text's walks alone
set_option linter.unusedVariables false
set_option linter.unusedSimpArgs false

/-! slices.Index, slices.Contains at ints -/
theorem Index_loop (l : List Int) (v : Int) (hb : l.length < 9223372036854775807) : ∀ (xs pre : List Int), l = pre ++ xs →
    Ev (fun k => slices_Index_int_int.l0 k l v (l.length : Int) (pre.length : Int)) (if v ∈ xs then ((pre.length + xs.idxOf v : Nat) : Int) else -1) := by
  intro xs
  induction xs with
  | nil =>
    intro pre h0
    refine Ev.succ ?_
    simp only [slices_Index_int_int.l0, if_neg (mid_end h0)]
    simpa using Ev.some (-1 : Int)
  | cons x xs ih =>
    intro pre h0
    refine Ev.succ ?_
    simp only [slices_Index_int_int.l0, if_pos (mid_lt h0), if_pos (show (0 : Int) ≤ (pre.length : Int) by omega), mid_rd h0, mid_next h0 hb]
    refine Ev.ite (fun e => ?_) (fun e => ?_)
    · subst e
      simpa using Ev.some _
    · have h := ih (pre ++ [x]) (mid_mv h0)
      have e1 : (v ∈ x :: xs) ↔ v ∈ xs := by simp [e]
      have e2 : (x :: xs).idxOf v = xs.idxOf v + 1 := by
        rw [List.idxOf_cons]
        have : (x == v) = false := by simpa using fun h => e h.symm
        rw [this]; rfl
      have e3 : ((pre ++ [x]).length + xs.idxOf v : Nat) = pre.length + (xs.idxOf v + 1) := by simp; omega
      simp only [e1, e2]
      rw [e3] at h
      exact h
theorem Index_ev (l : List Int) (v : Int) (hb : l.length < 9223372036854775807) : Ev (fun k => slices_Index_int_int.f k l v) (if v ∈ l then (l.idxOf v : Int) else -1) := by
  have := Index_loop l v hb l [] rfl
  simpa [slices_Index_int_int.f] using this
theorem Contains_ev (l : List Int) (v : Int) (hb : l.length < 9223372036854775807) : Ev (fun k => slices_Contains_int_int.f k l v) (decide (v ∈ l)) := by
  unfold slices_Contains_int_int.f
  refine Ev.bind (Index_ev l v hb) ?_
  have : decide ((if v ∈ l then (l.idxOf v : Int) else -1) ≥ 0) = decide (v ∈ l) := by
    rw [decide_eq_decide]; split <;> simp_all
  rw [this]
  exact Ev.some _

end Go.Proofs.Ytkidgakjeahebaa.P
namespace Go.Proofs.Ytkidgakjeahebaa.P
open Go.RowKit Go.Proofs.YtkidgakjeahebaaW.PrintWords Go.Proofs.YtkidgakjeahebaaW.PrintLast Go.Proofs.YtkidgakjeahebaaW.PrintMore
attribute [local go_sem] max2_int min2_int max_two min_two max_three min_three max_four min_four   -- for this text's walks alone
set_option linter.unusedVariables false
set_option linter.unusedSimpArgs false

/-! the second condition -/
def okP (rs : List Nat) (p : Int) : Bool := !(decide (p > 1) && !(decide (p ∈ numsI rs)))
def loopH (rs : List Nat) : List Nat → Int → Bool
  | [], _ => true
  | x :: xs, p => (if (prN x : Int) > 0 ∧ Int.tmod p (prN x : Int) ≠ 0 then okP rs (wrap64 (p * (x : Int))) && loopH rs xs (wrap64 (p * (x : Int))) else true) && loopH rs xs p
theorem numsI_len (l : List Nat) : (numsI l).length = l.length := by unfold numsI; simp
structure SecAt (rs : List Nat) (A : Option Addr) (c B1 B2 : Nat) (W : World) : Prop where
  r : W.cell? ⟨B1, 0, none⟩ = some (.slice A rs.length c)
  f : W.cell? ⟨B2, 0, none⟩ = some (.func (.func 52) #[] #[.pointer (some ⟨B1, 0, none⟩), .pointer (some ⟨B2, 0, none⟩)])
  h : Kd.C (Kd.int .i64) W A (numsI rs).length (numsI rs)
  c : rs.length ≤ c
theorem SecAt.drawn {rs : List Nat} {A : Option Addr} {c B1 B2 : Nat} {W V : World} (h : SecAt rs A c B1 B2 W) (hd : Drawn0 W V) : SecAt rs A c B1 B2 V := by
  obtain ⟨q, rfl⟩ := hd
  exact ⟨h.r, h.f, Kd.C_below h.h (pw_below_drewN (Below.refl _ W) q), h.c⟩
theorem drawn_trans {A B C : World} (h : Drawn0 A B) (k : Drawn0 B C) : Drawn0 A C := by
  obtain ⟨q, rfl⟩ := k
  exact h.step q
theorem SecAt.cellD {W V : World} {a : Addr} {v : Value} (hd : Drawn0 W V) (h : W.cell? a = some v) : V.cell? a = some v := by
  obtain ⟨q, rfl⟩ := hd
  exact h
set_option maxHeartbeats 16000000 in
set_option maxRecDepth 100000 in
theorem hold_calls (rs : List Nat) (hrs : ∀ s ∈ rs, 2 ≤ s ∧ s ≤ 24) (hl : rs.length < 1000) (A : Option Addr) (c B1 B2 : Nat) : ∀ (m i : Nat) (p : Int) (W : World), i + m = rs.length → SecAt rs A c B1 B2 W →
    Calls Try.prog 52 #[.int .i64 (i : Int), .int .i64 p, .pointer (some ⟨B1, 0, none⟩), .pointer (some ⟨B2, 0, none⟩)] W fun e w' => e = .returned (.bool (okP rs p && loopH rs (rs.drop i) p)) ∧ Drawn0 W w' := by
  intro m
  induction m using Nat.strongRecOn with
  | ind m ih =>
    intro i p W him hS
    have HS := Aside0.mk hS
    obtain ⟨kc, hkc⟩ := Ev.rounds (Contains_ev (numsI rs) p (by rw [numsI_len]; omega))
    have hcon := slices_Contains_int_int.calls kc A c (numsI rs) p _ W hS.h (by rw [numsI_len]; exact hS.c) hkc
    rw [numsI_len] at hcon
    have HCON := Aside0.mk hcon
    have k1 := hS.r
    clear hcon hkc hS
    by_cases hp : p > 1
    · by_cases hin : p ∈ numsI rs
      · have hok : okP rs p = true := by unfold okP; rw [decide_eq_true hin]; simp
        rw [decide_eq_true hin] at HCON
        clear hin
        go_enter Try.func52, Try.ntmps52
        go_wp2_with (go_at_call 21; refine HCON.out.mono ?_; rintro e w2 ⟨rfl, hd0⟩; have HD0 := Aside0.mk hd0; clear hd0 k1)
        go_loopg [7] rs.length (fun gg s7 wr => ∃ j : Nat, s7 = .int .i64 (j : Int) ∧ i ≤ j ∧ j ≤ rs.length ∧ Aside0 (j + gg = i + rs.length) ∧ Aside0 (Drawn0 W wr) ∧ Aside0 (loopH rs (rs.drop i) p = loopH rs (rs.drop j) p))
        case atStart => exact ⟨i, rfl, Nat.le_refl _, by omega, ⟨by omega⟩, ⟨HD0.out⟩, ⟨rfl⟩⟩
        case round =>
          obtain ⟨j, rfl, hij, hjn, HG, HD, HL⟩ := hrel
          have hS := HS.out.drawn HD.out
          have k1 := hS.r
          by_cases hlt : j < rs.length
          · have hltz : (j : Int) < (rs.length : Int) := by omega
            obtain ⟨x, hx⟩ : ∃ x, rs[j] = x := ⟨_, rfl⟩
            have hxr := hrs x (by rw [← hx]; exact List.getElem_mem hlt)
            obtain ⟨ad, ead, hcell⟩ := Kd.at_int hS.h (j : Int) (by omega) (by rw [numsI_len]; exact hltz)
            have hrd : rd (numsI rs) (j : Int) = (x : Int) := by rw [rd_get (by rw [numsI_len]; exact hlt)]; simp [numsI, hx]
            rw [hrd, Int.toNat_natCast] at hcell
            obtain ⟨kp, hkp⟩ := Ev.rounds (prime_ev hxr.1 hxr.2)
            have HPR := Aside0.mk (fun V => canon_prime.calls kp (x : Int) (prN x : Int) V hkp)
            have hdrop : rs.drop j = x :: rs.drop (j + 1) := by rw [List.drop_eq_getElem_cons hlt, hx]
            have HLX := Aside0.mk (show loopH rs (rs.drop i) p = ((if (prN x : Int) > 0 ∧ Int.tmod p (prN x : Int) ≠ 0 then okP rs (wrap64 (p * (x : Int))) && loopH rs (rs.drop (j + 1)) (wrap64 (p * (x : Int))) else true) && loopH rs (rs.drop (j + 1)) p) by rw [HL.out, hdrop, loopH])
            have HREC := Aside0.mk (fun V (hV : SecAt rs A c B1 B2 V) => show Calls Try.prog 52 #[.int .i64 ((j : Int) + 1), .int .i64 (IntKind.i64.wrap (p * (x : Int))), .pointer (some ⟨B1, 0, none⟩), .pointer (some ⟨B2, 0, none⟩)] V (fun e w' => e = .returned (.bool (okP rs (wrap64 (p * (x : Int))) && loopH rs (rs.drop (j + 1)) (wrap64 (p * (x : Int))))) ∧ Drawn0 V w') from by have hz := ih (rs.length - (j + 1)) (by omega) (j + 1) (wrap64 (p * (x : Int))) V (by omega) hV; rw [show ((j + 1 : Nat) : Int) = (j : Int) + 1 by omega] at hz; rw [show IntKind.i64.wrap (p * (x : Int)) = wrap64 (p * (x : Int)) by rw [IntKind.wrap_i64, wrap64]]; exact hz)
            have HSS := Aside0.mk hS
            have hw : wrap64 ((j : Int) + 1) = ((j + 1 : Nat) : Int) := by rw [wrap_id (by omega) (by omega)]; omega
            have hwi : IntKind.i64.wrap ((j : Int) + 1) = ((j + 1 : Nat) : Int) := by rw [i64_id (by omega) (by omega)]; omega
            subst ead
            obtain ⟨y, hy⟩ : ∃ y, (prN x : Int) = y := ⟨_, rfl⟩
            rw [hy] at HPR HLX
            clear hS hx hxr hrd hkp hdrop hjn hy
            by_cases hc1 : y > 0
            · have hy0 : (y == 0) = false := beq_eq_false_iff_ne.2 (by omega)
              have hy1 : ¬ y = 0 := by omega
              by_cases hc2 : Int.tmod p y = 0
              · have hc2b : (Int.tmod p y != 0) = false := by rw [hc2]; rfl
                have HN := Aside0.mk (HLX.out.trans (by rw [if_neg (fun h => h.2 hc2), Bool.true_and]))
                have HC2 := Aside0.mk hc2
                go_wp2_with (go_at_call 40; refine (HPR.out _).mono ?_; rintro e V2 ⟨rfl, hd2⟩; have hS2 := HSS.out.drawn hd2; have g1 := hS2.r; have g2 := hS2.f; have hcell2 := SecAt.cellD hd2 hcell; have HD2 := Aside0.mk (drawn_trans HD.out hd2); have HS2 := Aside0.mk hS2; clear k1 hcell hd2 hS2)
                go_quiet (fail)
                clear g1 g2 hcell2
                go_wp2
                go_roundg (gk - 1)
                case measure => have := HG.out; omega
                case rel => exact ⟨j + 1, by first | go_num | (rw [hw]) | (rw [hwi]), by omega, by omega, ⟨by have := HG.out; omega⟩, ⟨drawn_trans HD2.out ⟨⟨nq, rfl⟩⟩⟩, HN⟩
              · have hc2b : (Int.tmod p y != 0) = true := bne_iff_ne.2 hc2
                cases hb : (okP rs (wrap64 (p * (x : Int))) && loopH rs (rs.drop (j + 1)) (wrap64 (p * (x : Int)))) with
                | true =>
                  have HN := Aside0.mk (HLX.out.trans (by rw [if_pos ⟨hc1, hc2⟩, hb, Bool.true_and]))
                  rw [hb] at HREC
                  have HC2 := Aside0.mk hc2
                  clear hb
                  go_wp2_with (go_at_call 40; refine (HPR.out _).mono ?_; rintro e V2 ⟨rfl, hd2⟩; have hS2 := HSS.out.drawn hd2; have g1 := hS2.r; have g2 := hS2.f; have hcell2 := SecAt.cellD hd2 hcell; have HD2 := Aside0.mk (drawn_trans HD.out hd2); have HS2 := Aside0.mk hS2; have HR2 := Aside0.mk (fun n => (HREC.out (V2.drewN n) (hS2.drawn ⟨⟨n, rfl⟩⟩)).mono (fun e w' h => And.intro h.1 h.2.out)); clear k1 hcell hd2 hS2)
                  go_quiet ((go_at_call 52; exact Calls.quiet_of (HR2.out _)))
                  clear g1 g2 hcell2
                  go_wp2
                  go_roundg (gk - 1)
                  case measure => have := HG.out; omega
                  case rel => exact ⟨j + 1, by first | go_num | (rw [hw]) | (rw [hwi]), by omega, by omega, ⟨by have := HG.out; omega⟩, ⟨drawn_trans HD2.out ⟨⟨nq, rfl⟩⟩⟩, HN⟩
                | false =>
                  have HN := Aside0.mk (HLX.out.trans (by rw [if_pos ⟨hc1, hc2⟩, hb, Bool.false_and]))
                  rw [hb] at HREC
                  have HC2 := Aside0.mk hc2
                  clear hb
                  go_wp2_with (go_at_call 40; refine (HPR.out _).mono ?_; rintro e V2 ⟨rfl, hd2⟩; have hS2 := HSS.out.drawn hd2; have g1 := hS2.r; have g2 := hS2.f; have hcell2 := SecAt.cellD hd2 hcell; have HD2 := Aside0.mk (drawn_trans HD.out hd2); have HS2 := Aside0.mk hS2; have HR2 := Aside0.mk (fun n => (HREC.out (V2.drewN n) (hS2.drawn ⟨⟨n, rfl⟩⟩)).mono (fun e w' h => And.intro h.1 h.2.out)); clear k1 hcell hd2 hS2)
                  go_quiet ((go_at_call 52; exact Calls.quiet_of (HR2.out _)))
                  clear g1 g2 hcell2
                  go_wp2
                  go_ret
                  exact ⟨by rw [HN.out, Bool.and_false]; rfl, drawn_trans HD2.out ⟨⟨nq, rfl⟩⟩⟩
            · have hc1b : decide (y > 0) = false := decide_eq_false hc1
              have HN := Aside0.mk (HLX.out.trans (by rw [if_neg (fun h => hc1 h.1), Bool.true_and]))
              go_wp2_with (go_at_call 40; refine (HPR.out _).mono ?_; rintro e V2 ⟨rfl, hd2⟩; have hS2 := HSS.out.drawn hd2; have g1 := hS2.r; have g2 := hS2.f; have hcell2 := SecAt.cellD hd2 hcell; have HD2 := Aside0.mk (drawn_trans HD.out hd2); have HS2 := Aside0.mk hS2; clear k1 hcell hd2 hS2)
              go_quiet (fail)
              clear g1 g2 hcell2
              go_wp2
              go_roundg (gk - 1)
              case measure => have := HG.out; omega
              case rel => exact ⟨j + 1, by first | go_num | (rw [hw]) | (rw [hwi]), by omega, by omega, ⟨by have := HG.out; omega⟩, ⟨drawn_trans HD2.out ⟨⟨nq, rfl⟩⟩⟩, HN⟩
          · have hltz : ¬ (j : Int) < (rs.length : Int) := by omega
            have hj : j = rs.length := by omega
            have HN := Aside0.mk (show loopH rs (rs.drop i) p = true by rw [HL.out, hj, List.drop_length]; rfl)
            have HOK := Aside0.mk hok
            clear hok
            go_wp2
            go_ret
            exact ⟨by rw [HN.out, HOK.out]; rfl, HD.out⟩
      · have hok : okP rs p = false := by unfold okP; rw [decide_eq_false hin, decide_eq_true hp]; rfl
        rw [decide_eq_false hin] at HCON
        have HOK := Aside0.mk hok
        clear hin hok
        go_enter Try.func52, Try.ntmps52
        go_wp2_with (go_at_call 21; refine HCON.out.mono ?_; rintro e w2 ⟨rfl, hd0⟩; have HD0 := Aside0.mk hd0; clear hd0 k1)
        go_ret
        exact ⟨by rw [HOK.out, Bool.false_and]; rfl, HD0.out⟩
    · have hok : okP rs p = true := by unfold okP; rw [decide_eq_false hp]; rfl
      go_enter Try.func52, Try.ntmps52
      go_wp2
      go_loopg [7] rs.length (fun gg s7 wr => ∃ j : Nat, s7 = .int .i64 (j : Int) ∧ i ≤ j ∧ j ≤ rs.length ∧ Aside0 (j + gg = i + rs.length) ∧ Aside0 (Drawn0 W wr) ∧ Aside0 (loopH rs (rs.drop i) p = loopH rs (rs.drop j) p))
      case atStart => exact ⟨i, rfl, Nat.le_refl _, by omega, ⟨by omega⟩, ⟨Drawn0.refl _⟩, ⟨rfl⟩⟩
      case round =>
        obtain ⟨j, rfl, hij, hjn, HG, HD, HL⟩ := hrel
        have hS := HS.out.drawn HD.out
        have k1 := hS.r
        by_cases hlt : j < rs.length
        · have hltz : (j : Int) < (rs.length : Int) := by omega
          obtain ⟨x, hx⟩ : ∃ x, rs[j] = x := ⟨_, rfl⟩
          have hxr := hrs x (by rw [← hx]; exact List.getElem_mem hlt)
          obtain ⟨ad, ead, hcell⟩ := Kd.at_int hS.h (j : Int) (by omega) (by rw [numsI_len]; exact hltz)
          have hrd : rd (numsI rs) (j : Int) = (x : Int) := by rw [rd_get (by rw [numsI_len]; exact hlt)]; simp [numsI, hx]
          rw [hrd, Int.toNat_natCast] at hcell
          obtain ⟨kp, hkp⟩ := Ev.rounds (prime_ev hxr.1 hxr.2)
          have HPR := Aside0.mk (fun V => canon_prime.calls kp (x : Int) (prN x : Int) V hkp)
          have hdrop : rs.drop j = x :: rs.drop (j + 1) := by rw [List.drop_eq_getElem_cons hlt, hx]
          have HLX := Aside0.mk (show loopH rs (rs.drop i) p = ((if (prN x : Int) > 0 ∧ Int.tmod p (prN x : Int) ≠ 0 then okP rs (wrap64 (p * (x : Int))) && loopH rs (rs.drop (j + 1)) (wrap64 (p * (x : Int))) else true) && loopH rs (rs.drop (j + 1)) p) by rw [HL.out, hdrop, loopH])
          have HREC := Aside0.mk (fun V (hV : SecAt rs A c B1 B2 V) => show Calls Try.prog 52 #[.int .i64 ((j : Int) + 1), .int .i64 (wrap64 (p * (x : Int))), .pointer (some ⟨B1, 0, none⟩), .pointer (some ⟨B2, 0, none⟩)] V (fun e w' => e = .returned (.bool (okP rs (wrap64 (p * (x : Int))) && loopH rs (rs.drop (j + 1)) (wrap64 (p * (x : Int))))) ∧ Drawn0 V w') from by have hz := ih (rs.length - (j + 1)) (by omega) (j + 1) (wrap64 (p * (x : Int))) V (by omega) hV; rw [show ((j + 1 : Nat) : Int) = (j : Int) + 1 by omega] at hz; exact hz)
          have HSS := Aside0.mk hS
          have hw : wrap64 ((j : Int) + 1) = ((j + 1 : Nat) : Int) := by rw [wrap_id (by omega) (by omega)]; omega
          have hwi : IntKind.i64.wrap ((j : Int) + 1) = ((j + 1 : Nat) : Int) := by rw [i64_id (by omega) (by omega)]; omega
          subst ead
          obtain ⟨y, hy⟩ : ∃ y, (prN x : Int) = y := ⟨_, rfl⟩
          rw [hy] at HPR HLX
          clear hS hx hxr hrd hkp hdrop hjn hy
          by_cases hc1 : y > 0
          · have hy0 : (y == 0) = false := beq_eq_false_iff_ne.2 (by omega)
            have hy1 : ¬ y = 0 := by omega
            by_cases hc2 : Int.tmod p y = 0
            · have hc2b : (Int.tmod p y != 0) = false := by rw [hc2]; rfl
              have HN := Aside0.mk (HLX.out.trans (by rw [if_neg (fun h => h.2 hc2), Bool.true_and]))
              have HC2 := Aside0.mk hc2
              go_wp2_with (go_at_call 40; refine (HPR.out _).mono ?_; rintro e V2 ⟨rfl, hd2⟩; have hS2 := HSS.out.drawn hd2; have g1 := hS2.r; have g2 := hS2.f; have hcell2 := SecAt.cellD hd2 hcell; have HD2 := Aside0.mk (drawn_trans HD.out hd2); have HS2 := Aside0.mk hS2; clear k1 hcell hd2 hS2)
              go_quiet (fail)
              clear g1 g2 hcell2
              go_wp2
              go_roundg (gk - 1)
              case measure => have := HG.out; omega
              case rel => exact ⟨j + 1, by first | go_num | (rw [hw]) | (rw [hwi]), by omega, by omega, ⟨by have := HG.out; omega⟩, ⟨drawn_trans HD2.out ⟨⟨nq, rfl⟩⟩⟩, HN⟩
            · have hc2b : (Int.tmod p y != 0) = true := bne_iff_ne.2 hc2
              cases hb : (okP rs (wrap64 (p * (x : Int))) && loopH rs (rs.drop (j + 1)) (wrap64 (p * (x : Int)))) with
              | true =>
                have HN := Aside0.mk (HLX.out.trans (by rw [if_pos ⟨hc1, hc2⟩, hb, Bool.true_and]))
                rw [hb] at HREC
                have HC2 := Aside0.mk hc2
                clear hb
                go_wp2_with (go_at_call 40; refine (HPR.out _).mono ?_; rintro e V2 ⟨rfl, hd2⟩; have hS2 := HSS.out.drawn hd2; have g1 := hS2.r; have g2 := hS2.f; have hcell2 := SecAt.cellD hd2 hcell; have HD2 := Aside0.mk (drawn_trans HD.out hd2); have HS2 := Aside0.mk hS2; have HR2 := Aside0.mk (fun n => (HREC.out (V2.drewN n) (hS2.drawn ⟨⟨n, rfl⟩⟩)).mono (fun e w' h => And.intro h.1 h.2.out)); clear k1 hcell hd2 hS2)
                go_quiet ((go_at_call 52; exact Calls.quiet_of (HR2.out _)))
                clear g1 g2 hcell2
                go_wp2
                go_roundg (gk - 1)
                case measure => have := HG.out; omega
                case rel => exact ⟨j + 1, by first | go_num | (rw [hw]) | (rw [hwi]), by omega, by omega, ⟨by have := HG.out; omega⟩, ⟨drawn_trans HD2.out ⟨⟨nq, rfl⟩⟩⟩, HN⟩
              | false =>
                have HN := Aside0.mk (HLX.out.trans (by rw [if_pos ⟨hc1, hc2⟩, hb, Bool.false_and]))
                rw [hb] at HREC
                have HC2 := Aside0.mk hc2
                clear hb
                go_wp2_with (go_at_call 40; refine (HPR.out _).mono ?_; rintro e V2 ⟨rfl, hd2⟩; have hS2 := HSS.out.drawn hd2; have g1 := hS2.r; have g2 := hS2.f; have hcell2 := SecAt.cellD hd2 hcell; have HD2 := Aside0.mk (drawn_trans HD.out hd2); have HS2 := Aside0.mk hS2; have HR2 := Aside0.mk (fun n => (HREC.out (V2.drewN n) (hS2.drawn ⟨⟨n, rfl⟩⟩)).mono (fun e w' h => And.intro h.1 h.2.out)); clear k1 hcell hd2 hS2)
                go_quiet ((go_at_call 52; exact Calls.quiet_of (HR2.out _)))
                clear g1 g2 hcell2
                go_wp2
                go_ret
                exact ⟨by rw [HN.out, Bool.and_false]; rfl, drawn_trans HD2.out ⟨⟨nq, rfl⟩⟩⟩
          · have hc1b : decide (y > 0) = false := decide_eq_false hc1
            have HN := Aside0.mk (HLX.out.trans (by rw [if_neg (fun h => hc1 h.1), Bool.true_and]))
            go_wp2_with (go_at_call 40; refine (HPR.out _).mono ?_; rintro e V2 ⟨rfl, hd2⟩; have hS2 := HSS.out.drawn hd2; have g1 := hS2.r; have g2 := hS2.f; have hcell2 := SecAt.cellD hd2 hcell; have HD2 := Aside0.mk (drawn_trans HD.out hd2); have HS2 := Aside0.mk hS2; clear k1 hcell hd2 hS2)
            go_quiet (fail)
            clear g1 g2 hcell2
            go_wp2
            go_roundg (gk - 1)
            case measure => have := HG.out; omega
            case rel => exact ⟨j + 1, by first | go_num | (rw [hw]) | (rw [hwi]), by omega, by omega, ⟨by have := HG.out; omega⟩, ⟨drawn_trans HD2.out ⟨⟨nq, rfl⟩⟩⟩, HN⟩
        · have hltz : ¬ (j : Int) < (rs.length : Int) := by omega
          have hj : j = rs.length := by omega
          have HN := Aside0.mk (show loopH rs (rs.drop i) p = true by rw [HL.out, hj, List.drop_length]; rfl)
          have HOK := Aside0.mk hok
          clear hok
          go_wp2
          go_ret
          exact ⟨by rw [HN.out, HOK.out]; rfl, HD.out⟩
def canon_circle_second.f (a0 a1 : Int) : Option Bool := if 2 ≤ a0 ∧ a0 ≤ 24 ∧ 0 ≤ a1 ∧ a1 < (2 : Int) ^ a0.toNat then some (okP (rootsN a0.toNat a1.toNat) 1 && loopH (rootsN a0.toNat a1.toNat) (rootsN a0.toNat a1.toNat) 1) else none
theorem two_new (w : World) (v0 v1 : Value) (t0 t1 : TypeId) (W0 : World) (h : (w.alloc (.cells #[v0] t0)).alloc (.cells #[v1] t1) = W0) :
    W0.cell? ⟨w.heap.size, 0, none⟩ = some v0 ∧ W0.cell? ⟨w.heap.size + 1, 0, none⟩ = some v1 ∧ Below w.heap.size w W0 := by
  subst h
  have a0 := new_cell w v0 t0
  have a1 := new_cell (w.alloc (.cells #[v0] t0)) v1 t1
  simp only [World.size_alloc] at a1
  exact ⟨old_cell _ a0.1, a1.1, below_alloc (below_alloc (Below.refl _ _) _) _⟩
theorem store_two (w : World) (o : Obj) (z v : Value) (t : TypeId) (hv : v.oneCell' = true) : (store ⟨w.heap.size + 1, 0, none⟩ v).run Try.prog ((w.alloc o).alloc (.cells #[z] t)) = .ok () ((w.alloc o).alloc (.cells #[v] t)) := by
  have a1 := new_cell (w.alloc o) z t
  simp only [World.size_alloc] at a1
  rw [run_store Try.prog _ _ _ _ hv, a1.1, a1.2]
  have := World.setCell_alloc_at (w := w.alloc o) #[z] t (w.heap.size + 1) 0 v (by simp [World.size_alloc])
  simp only [Bool.false_eq_true, if_false, this]
  rfl
set_option maxHeartbeats 8000000 in
set_option maxRecDepth 100000 in
theorem canon_circle_second.calls (a0 a1 : Int) (r : Bool) (w : World) (h : canon_circle_second.f a0 a1 = some r) :
    Calls Try.prog 39 #[.int .i64 a0, .int .i64 a1] w fun e w' => e = .returned (.bool r) ∧ Below w.heap.size w w' := by
  unfold canon_circle_second.f at h
  by_cases hd : 2 ≤ a0 ∧ a0 ≤ 24 ∧ 0 ≤ a1 ∧ a1 < (2 : Int) ^ a0.toNat
  case neg => rw [if_neg hd] at h; cases h
  rw [if_pos hd] at h
  injection h with h
  obtain ⟨n, rfl⟩ : ∃ n : Nat, a0 = (n : Int) := ⟨a0.toNat, by omega⟩
  obtain ⟨a, rfl⟩ : ∃ a : Nat, a1 = (a : Int) := ⟨a1.toNat, by omega⟩
  rw [Int.toNat_natCast] at hd h
  rw [Int.toNat_natCast] at h
  obtain ⟨d1, d2, _, d3⟩ := hd
  have h2 : 2 ≤ n := by omega
  have h24 : n ≤ 24 := by omega
  have ha : a < 2 ^ n := by exact_mod_cast d3
  obtain ⟨rs, hrs⟩ : ∃ rs, rootsN n a = rs := ⟨_, rfl⟩
  rw [hrs] at h
  obtain ⟨kr, hkr⟩ := Ev.rounds (roots_ev h2 h24 ha)
  rw [hrs] at hkr
  have HCR := Aside0.mk (fun V => canon_circle_roots.calls kr (n : Int) (a : Int) (numsI rs) V hkr)
  have HH := Aside0.mk (fun A c B1 B2 W (hs : SecAt rs A c B1 B2 W) => hold_calls rs (fun s hs => by rw [← hrs] at hs; have := rootsN_mem.1 hs; omega) (by rw [← hrs]; exact rootsN_len n a h24) A c B1 B2 rs.length 0 1 W (by omega) hs)
  have H := Aside0.mk h
  clear h hrs hkr d1 d2 d3 ha h2 h24
  have hmf : ∀ (fn : Fn) (first cap : Array Value) (w : World), (Instr.makeFunc fn first cap).run Try.prog w = .ok (.func fn first cap) w := fun _ _ _ _ => rfl
  go_enter Try.func39, Try.ntmps39
  go_wp2_with (go_at_call 36; refine (HCR.out _).mono ?_; rintro e w2 ⟨vr, rfl, hr0, hb0⟩; have HX := Aside0.mk (And.intro hr0 hb0); clear hr0 hb0; obtain ⟨Ar, cr, er⟩ := Kd.R_slice HX.out.1; rw [numsI_len] at er; subst er)
  unfold Oper.upon
  rw [store_two _ _ _ _ _ rfl]
  go_wp2_with fail
  obtain ⟨W0, hW0⟩ : ∃ W0, ((w2.alloc (.cells #[.slice Ar rs.length cr] 39)).alloc (.cells #[.func (.func 52) #[] #[.pointer (some ⟨w2.heap.size, 0, none⟩), .pointer (some ⟨w2.heap.size + 1, 0, none⟩)]] 27)) = W0 := ⟨_, rfl⟩
  rw [hW0]
  obtain ⟨c0, c1, B0⟩ := two_new w2 _ _ _ _ W0 hW0
  have hrun := HH.out Ar cr w2.heap.size (w2.heap.size + 1) W0 ⟨c0, c1, Kd.C_below (by have := (Kd.R_reads' HX.out.1).2.2; exact this) B0, by have := (Kd.R_reads' HX.out.1).2.1; exact this⟩
  rw [List.drop_zero, H.out] at hrun
  have HB := Aside0.mk (below_step HX.out.2 B0)
  clear hW0 c0 c1 B0 HH
  refine hrun.mono ?_
  rintro e w' ⟨rfl, ⟨q, rfl⟩⟩
  go_wp2
  go_ret
  exact ⟨rfl, pw_below_drewN HB.out q⟩

end Go.Proofs.Ytkidgakjeahebaa.P
namespace Go.Proofs.Ytkidgakjeahebaa.P
open Go.RowKit Go.Proofs.YtkidgakjeahebaaW.PrintWords Go.Proofs.YtkidgakjeahebaaW.PrintLast Go.Proofs.YtkidgakjeahebaaW.PrintMore
attribute [local go_sem] max2_int min2_int max_two min_two max_three min_three max_four min_four   -- for this text's walks alone
set_option linter.unusedVariables false
set_option linter.unusedSimpArgs false

/-! ### canon_Second: function 23 -/
def canon_Second.f (a0 : Int) (a1 : Int) : Option (Bool × Int) := (canon_circle_valid.f a0 (([a1] : List Int))).bind fun t1004 => (if t1004 = true then ((canon_circle_second.f a0 a1).bind fun t1005 => (some (t1005, 0))) else (some (false, 2)))
set_option maxHeartbeats 8000000 in
set_option maxRecDepth 100000 in
theorem canon_Second.calls (a0 : Int) (a1 : Int) (r1 : Bool) (r2 : Int) (w : World) (h : canon_Second.f a0 a1 = some (r1, r2)) :
    Calls Try.prog 23 #[.int .i64 a0, .int .i64 a1] w fun e w' => e = .returned (.tuple #[.bool r1, .int .i64 r2]) ∧ Below w.heap.size w w' := by
  have HB := Aside0.mk (Below.refl w.heap.size w)
  have H : ((canon_circle_valid.f a0 (([a1] : List Int))).bind fun t1004 => (if t1004 = true then ((canon_circle_second.f a0 a1).bind fun t1005 => (some (t1005, 0))) else (some (false, 2)))) = some (r1, r2) := h
  clear h
  obtain ⟨y1001, hy1001⟩ : ∃ y_ : List Int, y_ = (([a1] : List Int)) := ⟨_, rfl⟩
  replace H : ((canon_circle_valid.f a0 y1001).bind fun t1004 => (if t1004 = true then ((canon_circle_second.f a0 a1).bind fun t1005 => (some (t1005, 0))) else (some (false, 2)))) = some (r1, r2) := by first | (rw [hy1001]; with_reducible exact H) | (have H2_ := (Option.bind_some _ _).symm.trans H; rw [hy1001]; with_reducible exact H2_) | (have H2_ := (Option.bind_some _ _).symm.trans H; with_reducible exact H2_) | with_reducible exact H | (rw [hy1001]; exact H) | exact H
  have Ny1001 := Aside0.mk hy1001
  clear hy1001
  replace H := Option.bind_eq_some_iff.mp H
  obtain ⟨t1004, A30, H⟩ := H
  replace H : (if t1004 = true then ((canon_circle_second.f a0 a1).bind fun t1005 => (some (t1005, 0))) else (some (false, 2))) = some (r1, r2) := H
  have A3 := Aside0.mk A30
  clear A30
  by_cases c4 : t1004 = true
  · subst c4
    have H1 : ((canon_circle_second.f a0 a1).bind fun t1005 => (some (t1005, 0))) = some (r1, r2) := by rw [if_pos rfl] at H; exact H
    clear H
    have H := H1
    clear H1
    replace H := Option.bind_eq_some_iff.mp H
    obtain ⟨t1005, A50, H⟩ := H
    replace H : (some (t1005, 0)) = some (r1, r2) := H
    have A5 := Aside0.mk A50
    clear A50
    simp only [Option.some.injEq, Prod.mk.injEq] at H
    obtain ⟨rfl, rfl⟩ := H
    go_enter Try.func23, Try.ntmps23
    go_wp2_with (first | ((with_reducible refine gate_dst (N := 8) rfl ?_); refine Kd.R_lit (Kd.int .i64) _ 3 ?hg (N := 8) ?hd (xs := ([a1] : List Int)) (inner := [.int .i64 a1]) (ok := fun _ => True) (okp := fun _ => True) ?hr ?hp (fun _ hk => hk) trivial (Below.refl _ _) (Nat.le_refl _) (by simp) ?_; (case hd => rfl); (case hg => rfl); (case hr => first | (go_simp; done) | (go_simp; rfl)); (case hp => exact (Reps.one (show Kd.M (Kd.int .i64) _ _ _ a1 [.int .i64 a1] from rfl) (Reps.none _ _))); intro v1002 w6 ho7 hb hg_ hnew_; clear hg_ hnew_; (first | rw [← Ny1001.out] at ho7 | (simp only [Int.reduceToNat] at ho7; rw [← Ny1001.out] at ho7)); have n0_ := Aside0.mk (Kd.R_lower ho7 (below_size (by repeat (first | (with_reducible first | exact HB.out | apply below_alloc | apply pw_below_drewN | apply below_drew1) | exact HB.out)))); have n1_ := Aside0.mk (below_step (by repeat (first | (with_reducible first | exact HB.out | apply below_alloc | apply pw_below_drewN | apply below_drew1) | exact HB.out)) hb); clear HB; have HO1003 := n0_; have HB := n1_; clear n0_ n1_; clear hb ho7; obtain ⟨Ao8, co8, eo8⟩ := Kd.R_slice HO1003.out; subst eo8) | ((with_reducible refine gate_callee (f := 30) rfl ?_); refine goesL_ (some 9) rfl rfl Try.func30 (by kernel_rfl) rfl #[.int .i64 a0, .slice Ao8 y1001.length co8] rfl (by (try simp only [List.map_toArray, List.map_cons, List.map_nil]); first | done | rfl | (simp only [List.length_drop, List.length_take]; rfl)) ?_; (with_reducible refine (canon_circle_valid.calls a0 _ _ y1001 true _ ?side1 ?side2 A3.out).mono ?_); (case side1 => repeat (first | exact (Kd.R_reads' HO1003.out).2.2 | (with_reducible refine Kd.C_alloc ?_ _) | (with_reducible refine Kd.C_drewN ?_ _) | (with_reducible refine Kd.C_drew ?_))); (case side2 => exact (Kd.R_reads' HO1003.out).2.1); rintro e w9 ⟨rfl, hb⟩; refine ⟨_, rfl, ?_⟩; have n0_ := Aside0.mk (Kd.R_below (by (with_reducible repeat (first | apply Kd.R_alloc | apply Kd.R_drewN | apply Kd.R_drew)); exact HO1003.out) hb); have n1_ := Aside0.mk (below_step (by repeat (first | (with_reducible first | exact HB.out | apply below_alloc | apply pw_below_drewN | apply below_drew1) | exact HB.out)) hb); clear HO1003; clear HB; have HO1003 := n0_; have HB := n1_; clear n0_ n1_; (try clear hb); (try clear hb2); (try clear hk); (try clear hi)) | ((with_reducible refine gate_callee (f := 39) rfl ?_); refine goesL_ (some 13) rfl rfl Try.func39 (by kernel_rfl) rfl #[.int .i64 a0, .int .i64 a1] rfl (by (try simp only [List.map_toArray, List.map_cons, List.map_nil]); first | done | rfl | (simp only [List.length_drop, List.length_take]; rfl)) ?_; (with_reducible refine (canon_circle_second.calls a0 a1 t1005 _ A5.out).mono ?_); rintro e w10 ⟨rfl, hb⟩; refine ⟨_, rfl, ?_⟩; have n0_ := Aside0.mk (Kd.R_below (by (with_reducible repeat (first | apply Kd.R_alloc | apply Kd.R_drewN | apply Kd.R_drew)); exact HO1003.out) hb); have n1_ := Aside0.mk (below_step (by repeat (first | (with_reducible first | exact HB.out | apply below_alloc | apply pw_below_drewN | apply below_drew1) | exact HB.out)) hb); clear HO1003; clear HB; have HO1003 := n0_; have HB := n1_; clear n0_ n1_; (try clear hb); (try clear hb2); (try clear hk); (try clear hi)))
    go_ret2
    exact ⟨by first | rfl | (simp [errW_none, errW_some] <;> rfl) | (simp [*, errW_none, errW_some] <;> rfl), by repeat (first | (with_reducible first | exact HB.out | apply below_alloc | apply pw_below_drewN | apply below_drew1) | exact HB.out)⟩
  · replace c4 := Bool.eq_false_iff.mpr c4
    subst c4
    have H1 : (some (false, 2)) = some (r1, r2) := by rw [if_neg (show ¬ (false = true) by decide)] at H; exact H
    clear H
    have H := H1
    clear H1
    simp only [Option.some.injEq, Prod.mk.injEq] at H
    obtain ⟨rfl, rfl⟩ := H
    go_enter Try.func23, Try.ntmps23
    go_wp2_with (first | ((with_reducible refine gate_dst (N := 8) rfl ?_); refine Kd.R_lit (Kd.int .i64) _ 3 ?hg (N := 8) ?hd (xs := ([a1] : List Int)) (inner := [.int .i64 a1]) (ok := fun _ => True) (okp := fun _ => True) ?hr ?hp (fun _ hk => hk) trivial (Below.refl _ _) (Nat.le_refl _) (by simp) ?_; (case hd => rfl); (case hg => rfl); (case hr => first | (go_simp; done) | (go_simp; rfl)); (case hp => exact (Reps.one (show Kd.M (Kd.int .i64) _ _ _ a1 [.int .i64 a1] from rfl) (Reps.none _ _))); intro v1002 w11 ho12 hb hg_ hnew_; clear hg_ hnew_; (first | rw [← Ny1001.out] at ho12 | (simp only [Int.reduceToNat] at ho12; rw [← Ny1001.out] at ho12)); have n0_ := Aside0.mk (Kd.R_lower ho12 (below_size (by repeat (first | (with_reducible first | exact HB.out | apply below_alloc | apply pw_below_drewN | apply below_drew1) | exact HB.out)))); have n1_ := Aside0.mk (below_step (by repeat (first | (with_reducible first | exact HB.out | apply below_alloc | apply pw_below_drewN | apply below_drew1) | exact HB.out)) hb); clear HB; have HO1003 := n0_; have HB := n1_; clear n0_ n1_; clear hb ho12; obtain ⟨Ao13, co13, eo13⟩ := Kd.R_slice HO1003.out; subst eo13) | ((with_reducible refine gate_callee (f := 30) rfl ?_); refine goesL_ (some 9) rfl rfl Try.func30 (by kernel_rfl) rfl #[.int .i64 a0, .slice Ao13 y1001.length co13] rfl (by (try simp only [List.map_toArray, List.map_cons, List.map_nil]); first | done | rfl | (simp only [List.length_drop, List.length_take]; rfl)) ?_; (with_reducible refine (canon_circle_valid.calls a0 _ _ y1001 false _ ?side1 ?side2 A3.out).mono ?_); (case side1 => repeat (first | exact (Kd.R_reads' HO1003.out).2.2 | (with_reducible refine Kd.C_alloc ?_ _) | (with_reducible refine Kd.C_drewN ?_ _) | (with_reducible refine Kd.C_drew ?_))); (case side2 => exact (Kd.R_reads' HO1003.out).2.1); rintro e w14 ⟨rfl, hb⟩; refine ⟨_, rfl, ?_⟩; have n0_ := Aside0.mk (Kd.R_below (by (with_reducible repeat (first | apply Kd.R_alloc | apply Kd.R_drewN | apply Kd.R_drew)); exact HO1003.out) hb); have n1_ := Aside0.mk (below_step (by repeat (first | (with_reducible first | exact HB.out | apply below_alloc | apply pw_below_drewN | apply below_drew1) | exact HB.out)) hb); clear HO1003; clear HB; have HO1003 := n0_; have HB := n1_; clear n0_ n1_; (try clear hb); (try clear hb2); (try clear hk); (try clear hi)))
    go_ret2
    exact ⟨by first | rfl | (simp [errW_none, errW_some] <;> rfl) | (simp [*, errW_none, errW_some] <;> rfl), by repeat (first | (with_reducible first | exact HB.out | apply below_alloc | apply pw_below_drewN | apply below_drew1) | exact HB.out)⟩

end Go.Proofs.Ytkidgakjeahebaa.P
namespace Go.Proofs.Ytkidgakjeahebaa.P
open Go.RowKit Go.Proofs.YtkidgakjeahebaaW.PrintWords Go.Proofs.YtkidgakjeahebaaW.PrintLast Go.Proofs.YtkidgakjeahebaaW.PrintMore
attribute [local go_sem] max2_int min2_int max_two min_two max_three min_three max_four min_four   -- for this text's walks alone
set_option linter.unusedVariables false
set_option linter.unusedSimpArgs false

/-! ### canon_free: function 41 -/
def canon_free.l0 : Nat → Int → Int → Option (Int)
  | 0, _, _ => none
  | k + 1, x0, x1 => if x1 = 0 then (none) else (if (Int.tmod x0 x1) = 0 then (canon_free.l0 k (wrap64 (Int.tdiv x0 x1)) x1) else (some x0))
def canon_free.f (k : Nat) (a0 : Int) (a1 : Int) : Option (Int) := canon_free.l0 k a0 a1
theorem canon_free.mono_l : ∀ k, (∀ y0 y1, LeO (canon_free.l0 k y0 y1) (canon_free.l0 (k + 1) y0 y1))
  | 0 => fun _ _ r h => by simp [canon_free.l0] at h
  | k + 1 => by
    have ih0 := canon_free.mono_l k
    · intro y0 y1
      unfold canon_free.l0
      repeat' first
      | (with_reducible exact ih0 _ _)
      | (with_reducible exact LeO.refl _)
      | (with_reducible exact LeO.none _)
      | (with_reducible refine LeO.ite ?_ ?_)
      | (with_reducible refine LeO.bind ?_ (fun _ => ?_))
      | exact ih0 _ _
      | exact LeO.none _
      | refine LeO.ite ?_ ?_
      | refine LeO.bind ?_ (fun _ => ?_)
theorem canon_free.mono : ∀ a0 a1 k, LeO (canon_free.f k a0 a1) (canon_free.f (k + 1) a0 a1) := by
  intro a0 a1 k
  have ih0 := canon_free.mono_l k
  unfold canon_free.f
  repeat' first
      | (with_reducible exact ih0 _ _)
      | (with_reducible exact LeO.refl _)
      | (with_reducible exact LeO.none _)
      | (with_reducible refine LeO.ite ?_ ?_)
      | (with_reducible refine LeO.bind ?_ (fun _ => ?_))
      | exact ih0 _ _
      | exact LeO.none _
      | refine LeO.ite ?_ ?_
      | refine LeO.bind ?_ (fun _ => ?_)
set_option maxHeartbeats 8000000 in
set_option maxRecDepth 100000 in
theorem canon_free.calls (k : Nat) (a0 : Int) (a1 : Int) (r : Int) (w : World) (h : canon_free.f k a0 a1 = some r) :
    Calls Try.prog 41 #[.int .i64 a0, .int .i64 a1] w fun e w' => e = .returned (.int .i64 r) ∧ Drawn0 w w' := by
  have H : (canon_free.l0 k a0 a1) = some r := h
  clear h
  have H' := Aside0.mk H
  clear H
  go_enter Try.func41, Try.ntmps41
  go_wp2
  go_loopg [0] k (fun kq v0 w' => ∃ (x0_1 : Int), v0 = .int .i64 x0_1 ∧ Aside0 (canon_free.l0 kq x0_1 a1 = some r) ∧ Aside0 (kq ≤ k) ∧ Drawn0 w w')
  case atStart => exact ⟨(a0), (by first | rfl | (simp; done) | (simp [*]; done)), H', ⟨Nat.le_refl _⟩, by repeat (first | exact Drawn0.refl _ | apply Drawn0.step)⟩
  case round =>
    clear H'
    try clear p2
    obtain ⟨x0_1, rfl, HA, HK1, ⟨m1, rfl⟩⟩ := hrel
    cases gk with
    | zero => exact absurd HA.out (by simp [canon_free.l0])
    | succ k1 =>
      have H := HA.out
      clear HA
      simp only [canon_free.l0] at H
      by_cases c3 : a1 = 0
      · rw [if_pos c3] at H
        exact absurd H (by simp)
      · rw [if_neg c3] at H
        have c3b0 : (a1 == 0) = false := beq_eq_false_iff_ne.mpr c3
        have c3b1 : (a1 != 0) = true := bne_iff_ne.mpr c3
        by_cases c4 : (Int.tmod x0_1 a1) = 0
        · rw [if_pos c4] at H
          have c4b0 : ((Int.tmod x0_1 a1) == 0) = true := beq_iff_eq.mpr c4
          have c4b1 : ((Int.tmod x0_1 a1) != 0) = false := bne_eq_false_iff_eq.mpr c4
          clear c4
          have H' := Aside0.mk H
          clear H
          go_wp2
          go_roundg k1
          case measure => have := HK1.out; omega
          case rel => exact ⟨(wrap64 (Int.tdiv x0_1 a1)), (by first | rfl | (simp; done) | (simp [*]; done)), H', ⟨by have := HK1.out; omega⟩, by repeat (first | exact Drawn0.refl _ | apply Drawn0.step)⟩
        · rw [if_neg c4] at H
          have c4b0 : ((Int.tmod x0_1 a1) == 0) = false := beq_eq_false_iff_ne.mpr c4
          have c4b1 : ((Int.tmod x0_1 a1) != 0) = true := bne_iff_ne.mpr c4
          obtain rfl := Option.some.inj H
          go_wp2
          go_ret
          exact ⟨by first | rfl | (simp; done) | (simp [*]; done), by repeat (first | exact Drawn0.refl _ | apply Drawn0.step)⟩

end Go.Proofs.Ytkidgakjeahebaa.P
