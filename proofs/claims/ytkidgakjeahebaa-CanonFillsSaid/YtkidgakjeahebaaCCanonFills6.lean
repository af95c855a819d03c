/- A part of a proof that a law's Go function returns true for every input, laid by this session's program mp.py (which drives the kit's print). Conditions: as each theorem states them. -/
import Derived.Lib.SliceRun
import Derived.Maps.AppendAt
import Derived.RowKit
import Derived.Tactics
import Derived.Test.YtkidgakjeahebaaCCanonFills1
import Derived.Test.YtkidgakjeahebaaCCanonFills2
import Derived.Test.YtkidgakjeahebaaCCanonFills4
import Derived.Test.YtkidgakjeahebaaCCanonFills5
namespace Go.Proofs.Ytkidgakjeahebaa.P
open Go.RowKit Go.Proofs.YtkidgakjeahebaaW.PrintWords Go.Proofs.YtkidgakjeahebaaW.PrintLast Go.Proofs.YtkidgakjeahebaaW.PrintMore
attribute [local go_sem] max2_int min2_int max_two min_two max_three min_three max_four min_four   -- for this text's walks alone
set_option linter.unusedVariables false
set_option linter.unusedSimpArgs false

/-! the second condition of the document: all products -/
def secIn (p : Nat) (bl : List Int) : List Nat → List Int → List Int
  | [], P => P
  | s :: rs, P => secIn p bl rs (if prN s = p then P ++ bl.map (fun x => wrap64 (x * (s : Int))) else P)
def secOut (rs : List Nat) : Nat → Nat → List Int → List Int
  | 0, _, P => P
  | m + 1, p, P => secOut rs m (p + 1) (secIn p P rs P)
def secFin (n : Nat) (rs : List Nat) : List Int := secOut rs (n - 1) 2 [1]
theorem secIn_le (p : Nat) (bl : List Int) : ∀ (rs : List Nat) (P : List Int), P.length ≤ (secIn p bl rs P).length
  | [], P => Nat.le_refl _
  | s :: rs, P => by
    unfold secIn
    refine Nat.le_trans ?_ (secIn_le p bl rs _)
    split
    · rw [List.length_append]; omega
    · exact Nat.le_refl _
theorem secOut_le (rs : List Nat) : ∀ (m p : Nat) (P : List Int), P.length ≤ (secOut rs m p P).length
  | 0, _, P => Nat.le_refl _
  | m + 1, p, P => Nat.le_trans (secIn_le p P rs P) (secOut_le rs m (p + 1) _)
def divsN (n : Nat) : List Nat := (List.range' 2 (n - 1)).filter fun s => decide (n % s = 0)
def allSub : List Nat → (List Nat → Bool) → Bool
  | [], P => P []
  | x :: xs, P => allSub xs P && allSub xs (fun l => P (x :: l))
theorem allSub_filter (q : Nat → Bool) : ∀ (l : List Nat) (P : List Nat → Bool), allSub l P = true → P (l.filter q) = true
  | [], P, h => h
  | x :: xs, P, h => by
    unfold allSub at h
    rw [Bool.and_eq_true] at h
    rw [List.filter_cons]
    split
    · exact allSub_filter q xs (fun l => P (x :: l)) h.2
    · exact allSub_filter q xs P h.1
theorem rootsN_sub (n a : Nat) : rootsN n a = (divsN n).filter (isRt n a) := by
  unfold rootsN divsN
  rw [List.filter_filter]
  refine List.filter_congr (fun s _ => ?_)
  rw [Bool.and_comm]
theorem sec_table : (List.range' 2 23).all (fun n => allSub (divsN n) (fun rs => decide ((secFin n rs).length ≤ 1000) && (secFin n rs).all (fun x => decide (1 ≤ x) && decide (x ≤ (n : Int)) && decide (n % x.toNat = 0)))) = true := by kernel_rfl
theorem sec_fin {n a : Nat} (h2 : 2 ≤ n) (hn : n ≤ 24) : (secFin n (rootsN n a)).length ≤ 1000 ∧ ∀ x ∈ secFin n (rootsN n a), 1 ≤ x ∧ x ≤ (n : Int) ∧ n % x.toNat = 0 := by
  have h := List.all_eq_true.1 sec_table n (List.mem_range'_1.2 ⟨h2, by omega⟩)
  have h1 := allSub_filter (isRt n a) _ _ h
  rw [← rootsN_sub, Bool.and_eq_true] at h1
  refine ⟨of_decide_eq_true h1.1, fun x hx => ?_⟩
  have h3 := List.all_eq_true.1 h1.2 x hx
  simp only [Bool.and_eq_true, decide_eq_true_eq] at h3
  exact ⟨h3.1.1, h3.1.2, h3.2⟩
def secB (n a : Nat) : Bool := (secFin n (rootsN n a)).all (fun x => !(decide (x > 1)) || isRt n a x.toNat)
def sackbutref02_Second.f (a0 a1 : Int) : Option Bool := if 2 ≤ a0 ∧ a0 ≤ 24 ∧ 0 ≤ a1 ∧ a1 < (2 : Int) ^ a0.toNat then some (secB a0.toNat a1.toNat) else none
/-- append of one number: the block is the same, or all old ones are as they were -/
theorem app_keep {rest : List Oper} {ops : Array Oper} {o : Oper} {a : Act} {Q : Exit → Act → World → Prop} {w0 W : World} (base : Nat) (hgd : o.guard = none) (s x : Operand) (t : TypeId)
    (ho : o.op = .call { callee := .builtin .append, args := #[s, x], argTypes := #[t, t] })
    (ht : Try.prog.underlying t = some (.slice 3)) (hinfo : (Try.prog.info? 3).map (fun i => (i.zero, i.size, i.bytes)) = some (some (.int .i64 0), 1, 8))
    (v : Value) (xs : List Int) (p : Int) (hs : a.eval s = v) (hx : a.eval x = .slice (some ⟨W.heap.size, 0, none⟩) 1 1)
    (HO : Kd.R (Kd.int .i64) 3 W base (fun _ => True) v xs) (HB : Below base w0 W) (hbase : base ≤ W.heap.size) (hl : xs.length ≤ 100000)
    (h : ∀ v1 w1, Kd.R (Kd.int .i64) 3 w1 base (fun _ => True) v1 (xs ++ [p]) → Below base w0 w1 → W.grownBy w1 v.ownBlock → (v1.ownBlock = v.ownBlock ∨ ((∃ b, v1.ownBlock = some b ∧ W.heap.size ≤ b) ∧ ∀ k, k < W.heap.size → w1.heap[k]? = W.heap[k]?)) → wpList Try.prog ops Q rest (a.put o.dst v1) w1) :
    wpList Try.prog ops Q (o :: rest) a (W.alloc (.cells #[.int .i64 p] 3)) := by
  obtain ⟨i0, hi, hzz⟩ := Option.map_eq_some_iff.1 hinfo
  simp only [Prod.mk.injEq] at hzz
  obtain ⟨hz0, hz1, hz2⟩ := hzz
  have own := Kd.own_of_R (enc := Value.int .i64) (h1 := fun _ => rfl) HO
  have ownA := own.alloc (.cells #[.int .i64 p] 3)
  have hnews : ∀ j u, ([Value.int .i64 p] : List Value)[j]? = some u → (W.alloc (.cells #[.int .i64 p] 3)).cell? ((⟨W.heap.size, 0, none⟩ : Addr).add j) = some u := cell_one_new W (.int .i64 p) 3
  have h1 : ∀ u ∈ ([Value.int .i64 p] : List Value), u.oneCell' = true := by intro u hu; rw [List.mem_singleton.1 hu]; rfl
  have hsz : (W.alloc (.cells #[.int .i64 p] 3)).heap.size = W.heap.size + 1 := by simp
  have hold : ∀ k, k < W.heap.size → (W.alloc (.cells #[.int .i64 p] 3)).heap[k]? = W.heap[k]? := fun k hk => _root_.Go.heap_alloc_old W _ hk
  refine wpList_plain hgd fun K hK => ?_
  obtain ⟨v', w', hr, h2, h3, h4, h5⟩ := run_append_own_at (P := Try.prog) (W.alloc (.cells #[.int .i64 p] 3)) base t o.type 3 i0 (.int .i64 0) 1 8 ht hi hz0 hz1 hz2 rfl (by omega) v xs.length _ ownA ⟨W.heap.size, 0, none⟩ 1 1 [.int .i64 p] (by simp) hnews h1 (by simp only [maxLen]; omega) (by omega) (by rw [hsz]; omega)
  have key : v'.ownBlock = v.ownBlock ∨ ∀ k, k < W.heap.size → w'.heap[k]? = W.heap[k]? := by
    rcases ownA.2 with ⟨e1, e2⟩ | ⟨g, cap, cur, e1, hbg, hg, hnc, hcm, hcs, htake⟩
    · right
      rw [e1, run_append_nil (P := Try.prog) _ t o.type 3 i0 (.int .i64 0) ht hi hz0 ⟨W.heap.size, 0, none⟩ 1 1 [.int .i64 p] (by simp [hz1]) hnews (by omega) (by omega) (by omega)] at hr
      injection hr with _ hw
      intro k hk
      rw [← hw]
      refine (_root_.Go.heap_alloc_old (W.alloc _).drew _ (by show k < (W.alloc _).heap.size; simp; omega)).trans ?_
      exact hold k hk
    · by_cases hroom : xs.length + 1 ≤ cap
      · left
        rw [e1, run_append_room (P := Try.prog) _ t o.type 3 i0 ht hi g xs.length cap cur hg ⟨W.heap.size, 0, none⟩ 1 1 [.int .i64 p] (by simp [hz1]) hnews h1 hroom (by rw [hz1, hcs]; simp; omega)] at hr
        injection hr with hv _
        rw [← hv, e1]; rfl
      · right
        have holds : ∀ j u, (encs (Value.int .i64) xs)[j]? = some u → (W.alloc (.cells #[.int .i64 p] 3)).cell? ((⟨g, 0, none⟩ : Addr).add j) = some u := ownA.cells (by rw [e1]; rfl)
        rw [e1, run_append_grow (P := Try.prog) _ t o.type 3 i0 (.int .i64 0) ht hi hz0 ⟨g, 0, none⟩ xs.length cap (encs (Value.int .i64) xs) (by rw [hz1, encs_length]; omega) holds ⟨W.heap.size, 0, none⟩ 1 1 [.int .i64 p] (by simp [hz1]) hnews (by omega) (by omega) (by rw [hz2]; exact growslice_fits (by omega) (by omega))] at hr
        injection hr with _ hw
        intro k hk
        rw [← hw]
        refine (_root_.Go.heap_alloc_old (W.alloc _).drew _ (by show k < (W.alloc _).heap.size; simp; omega)).trans ?_
        exact hold k hk
  have e0 : encs (Value.int .i64) xs ++ [Value.int .i64 p] = encs (Value.int .i64) (xs ++ [p]) := by simp [encs]
  rw [e0] at h2
  have hgg := World.grownBy.trans (World.grownBy_alloc W (.cells #[.int .i64 p] 3) v.ownBlock) h3
  unfold Oper.wp execOp
  simp only [ho, resolve, invoke, builtin, Sem.run_bind, Sem.run_pure, Result.andThen_ok, List.map_toArray, List.map_cons, List.map_nil, hs, hx, hr]
  refine hK _ _ (h v' w' (Kd.R_of_own (h1 := fun _ => rfl) (by rw [List.length_append]; exact h2) (fun _ _ => trivial)) ((HB.alloc hbase _).grown h3 (by rw [hsz]; omega) (own_base own)) hgg ?_)
  rcases key with hk | hk
  · exact .inl hk
  · rcases h5 with h5 | h5
    · exact .inl h5
    · exact .inr ⟨⟨_, h5, by rw [hsz]; omega⟩, hk⟩
theorem cell_heap {W V : World} {ad : Addr} (h : V.heap[ad.block]? = W.heap[ad.block]?) : V.cell? ad = W.cell? ad := by
  unfold World.cell?; rw [h]
theorem add_blk (ad : Addr) (j : Nat) : (ad.add j).block = ad.block := by unfold Addr.add; split <;> rfl
structure SecSt (w0 W : World) (v5 : Value) (P : List Int) (ad : Addr) (bl : List Int) (vr : Value) (rs : List Int) : Prop where
  bel : Below w0.heap.size w0 W
  own : Kd.R (Kd.int .i64) 3 W w0.heap.size (fun _ => True) v5 P
  row : Kd.R (Kd.int .i64) 3 W w0.heap.size (fun _ => True) vr rs
  rne : ∀ k, vr.ownBlock = some k → v5.ownBlock = some k → False
  bef : ∀ j, j < bl.length → W.cell? (ad.add j) = some (.int .i64 (bl.getD j 0))
  lt : ad.block < W.heap.size
  adz : ad = ⟨ad.block, 0, none⟩
  pre : v5.ownBlock = some ad.block → bl <+: P
theorem SecSt.to {w0 W V : World} {v5 : Value} {P : List Int} {ad : Addr} {bl : List Int} {vr : Value} {rs : List Int} (h : SecSt w0 W v5 P ad bl vr rs) (hb : Below W.heap.size W V) : SecSt w0 V v5 P ad bl vr rs :=
  ⟨below_step h.bel hb, Kd.R_below h.own hb, Kd.R_below h.row hb, h.rne, fun j hj => (cell_heap (by rw [add_blk]; exact hb.block _ h.lt)).trans (h.bef j hj), Nat.lt_of_lt_of_le h.lt hb.size, h.adz, h.pre⟩
theorem SecSt.app {w0 W V : World} {v5 v1 : Value} {P : List Int} {x : Int} {ad : Addr} {bl : List Int} {vr : Value} {rs : List Int} (h : SecSt w0 W v5 P ad bl vr rs)
    (ho : Kd.R (Kd.int .i64) 3 V w0.heap.size (fun _ => True) v1 (P ++ [x])) (hb : Below w0.heap.size w0 V) (hg : W.grownBy V v5.ownBlock)
    (hat : v1.ownBlock = v5.ownBlock ∨ ((∃ b, v1.ownBlock = some b ∧ W.heap.size ≤ b) ∧ ∀ k, k < W.heap.size → V.heap[k]? = W.heap[k]?)) : SecSt w0 V v1 (P ++ [x]) ad bl vr rs := by
  have hrow := Kd.own_of_R (enc := Value.int .i64) (h1 := fun _ => rfl) h.row
  have hown := Kd.own_of_R (enc := Value.int .i64) (h1 := fun _ => rfl) ho
  refine ⟨hb, ho, Kd.R_of_own (h1 := fun _ => rfl) (hrow.kept hg ?_) (fun _ _ => trivial), ?_, ?_, Nat.lt_of_lt_of_le h.lt hg.size, h.adz, ?_⟩
  · cases hv : vr.ownBlock with
    | none => exact .inl rfl
    | some k => exact .inr (fun e => h.rne k hv e.symm)
  · intro k hk h1
    rcases hat with hat | ⟨⟨b, hb1, hb2⟩, _⟩
    · exact h.rne k hk (hat ▸ h1)
    · rw [hb1] at h1
      injection h1 with h1
      have := own_lt hrow k hk
      omega
  · intro j hj
    by_cases he : v5.ownBlock = some ad.block
    · rcases hat with hat | ⟨_, hk⟩
      · have hp := h.pre he
        have hj2 : j < P.length := Nat.lt_of_lt_of_le hj hp.length_le
        have hc := hown.cells (g := ad.block) (hat.trans he) j (.int .i64 (bl.getD j 0)) (by
          obtain ⟨t, rfl⟩ := hp
          simp only [encs, List.getElem?_map, List.append_assoc]
          rw [List.getElem?_append_left hj, List.getD_eq_getElem?_getD, List.getElem?_eq_getElem hj]
          rfl)
        rw [h.adz]; exact hc
      · exact (cell_heap (by rw [add_blk]; exact hk _ h.lt)).trans (h.bef j hj)
    · exact (cell_heap (by rw [add_blk]; exact hg.block _ h.lt (fun e => he e.symm))).trans (h.bef j hj)
  · intro h1
    rcases hat with hat | ⟨⟨b, hb1, hb2⟩, _⟩
    · exact (h.pre (hat ▸ h1)).trans (List.prefix_append _ _)
    · rw [hb1] at h1
      injection h1 with h1
      have := h.lt
      omega
theorem sec_start {b0 : Nat} {W : World} {v : Value} {P : List Int} (h : Kd.R (Kd.int .i64) 3 W b0 (fun _ => True) v P) (hp : 0 < P.length) :
    ∃ (ad : Addr) (c : Nat), v = .slice (some ad) P.length c ∧ (∀ j, j < P.length → W.cell? (ad.add j) = some (.int .i64 (P.getD j 0))) ∧ ad.block < W.heap.size ∧ ad = ⟨ad.block, 0, none⟩ := by
  have own := Kd.own_of_R (enc := Value.int .i64) (h1 := fun _ => rfl) h
  rcases own.2 with ⟨e1, e2⟩ | ⟨g, cap, cur, e1, hbg, hg, hnc, hcm, hcs, htake⟩
  · omega
  · refine ⟨⟨g, 0, none⟩, cap, e1, fun j hj => ?_, own_lt own g (by rw [e1]; rfl), rfl⟩
    refine own.cells (g := g) (by rw [e1]; rfl) j _ ?_
    simp only [encs, List.getElem?_map]
    rw [List.getD_eq_getElem?_getD, List.getElem?_eq_getElem hj]
    rfl
theorem wr1 {j : Nat} (h : j < 100000) : wrap64 ((j : Int) + 1) = ((j + 1 : Nat) : Int) := by rw [wrap_id (by omega) (by omega)]; omega
theorem wr2 {j : Nat} (h : j < 100000) : IntKind.i64.wrap ((j : Int) + 1) = ((j + 1 : Nat) : Int) := by rw [i64_id (by omega) (by omega)]; omega
theorem nI_len (l : List Nat) : (numsI l).length = l.length := by unfold numsI; simp
theorem secIn_head (p : Nat) (bl : List Int) (s : Nat) (rs : List Nat) (P : List Int) (h : prN s = p) : secIn p bl (s :: rs) P = secIn p bl rs (P ++ (bl.drop 0).map (fun x => wrap64 (x * (s : Int)))) := by
  rw [secIn, if_pos h, List.drop_zero]
theorem sec_step (bl : List Int) (i : Nat) (hi : i < bl.length) (P : List Int) (s : Nat) : P ++ (bl.drop i).map (fun x => wrap64 (x * (s : Int))) = (P ++ [wrap64 (rd bl (i : Int) * (s : Int))]) ++ (bl.drop (i + 1)).map (fun x => wrap64 (x * (s : Int))) := by
  rw [List.drop_eq_getElem_cons hi, List.map_cons, List.append_assoc, rd_get hi]
  rfl
set_option maxHeartbeats 8000000 in
set_option maxRecDepth 100000 in
theorem sackbutref02_Second.calls (a0 a1 : Int) (r : Bool) (w : World) (h : sackbutref02_Second.f a0 a1 = some r) :
    Calls Try.prog 29 #[.int .i64 a0, .int .i64 a1] w fun e w' => e = .returned (.bool r) ∧ Below w.heap.size w w' := by
  unfold sackbutref02_Second.f at h
  by_cases hd : 2 ≤ a0 ∧ a0 ≤ 24 ∧ 0 ≤ a1 ∧ a1 < (2 : Int) ^ a0.toNat
  case neg => rw [if_neg hd] at h; cases h
  rw [if_pos hd] at h
  injection h with h
  obtain ⟨n, rfl⟩ : ∃ n : Nat, a0 = (n : Int) := ⟨a0.toNat, by omega⟩
  obtain ⟨a, rfl⟩ : ∃ a : Nat, a1 = (a : Int) := ⟨a1.toNat, by omega⟩
  rw [Int.toNat_natCast] at hd h
  rw [Int.toNat_natCast] at h
  obtain ⟨d1, d2, _, d3⟩ := hd
  have h2 : 2 ≤ n := by omega
  have h24 : n ≤ 24 := by omega
  have ha : a < 2 ^ n := by exact_mod_cast d3
  obtain ⟨rs, hrs⟩ : ∃ rs, rootsN n a = rs := ⟨_, rfl⟩
  obtain ⟨FIN, hF⟩ : ∃ F, secFin n rs = F := ⟨_, rfl⟩
  have HFL := Aside0.mk (by have := sec_fin (a := a) h2 h24; rw [hrs, hF] at this; exact this)
  have HR := Aside0.mk (show FIN.all (fun x => !(decide (x > 1)) || isRt n a x.toNat) = r by rw [← hF, ← hrs]; exact h)
  have HM := Aside0.mk (show ∀ s ∈ rs, 2 ≤ s ∧ s ≤ 24 from fun s hs => by rw [← hrs] at hs; have := rootsN_mem.1 hs; omega)
  have HL := Aside0.mk (show rs.length < 1000 from by rw [← hrs]; exact rootsN_len n a h24)
  obtain ⟨kr, hkr⟩ := Ev.rounds (rroots_ev h2 h24 ha)
  rw [hrs] at hkr
  have HCR := Aside0.mk (fun V => sackbutref02_Roots.calls kr (n : Int) (a : Int) (numsI rs) V hkr)
  have HIS := Aside0.mk (fun (s : Nat) (h1 : 1 ≤ s) (hs : s ≤ n) (V : World) => by
    obtain ⟨k, hk⟩ := Ev.rounds (isRoot_ev (a := a) h1 hs h24 ha)
    exact sackbutref02_IsRoot.calls k (n : Int) (a : Int) (s : Int) (isRt n a s) V hk)
  have HFD := Aside0.mk (show secOut rs (n - 1) 2 [1] = FIN from hF)
  clear h hrs hF hkr d3 ha d1 d2
  go_enter Try.func29, Try.ntmps29
  have HN : Kd.R (Kd.int .i64) 3 (w.alloc (.cells #[.int .i64 1] 3)) w.heap.size (fun _ => True) (.slice (some ⟨w.heap.size, 0, none⟩) 1 1) [1] :=
    Kd.R_of_own (h1 := fun _ => rfl) (World.ownsRow_lit (base := w.heap.size) (e := 3) (size := 1) w #[.int .i64 1] 1 (Nat.le_refl _) (by simp [maxLen]) (by simp)) (fun _ _ => trivial)
  have HNa := Aside0.mk HN
  clear HN
  go_wp2
  go_loopg [5, 6] (n - 1) (fun gg s5 s6 wr => ∃ (p : Nat) (P : List Int), s6 = .int .i64 (p : Int) ∧ 2 ≤ p ∧ p + gg = n + 1 ∧ Aside0 (0 < P.length) ∧ Aside0 (Kd.R (Kd.int .i64) 3 wr w.heap.size (fun _ => True) s5 P) ∧ Aside0 (Below w.heap.size w wr) ∧ Aside0 (secOut rs gg p P = FIN))
  case atStart => exact ⟨2, [1], rfl, Nat.le_refl _, by omega, ⟨by decide⟩, ⟨HNa.out⟩, ⟨below_alloc (Below.refl _ _) _⟩, ⟨HFD.out⟩⟩
  case round =>
    obtain ⟨p, P, rfl, hp2, hpg, HP0, HO, HB, HE⟩ := hrel
    by_cases hpn : p ≤ n
    · have hpz : (p : Int) ≤ (n : Int) := by omega
      obtain ⟨m, rfl⟩ : ∃ m, gk = m + 1 := ⟨gk - 1, by omega⟩
      obtain ⟨ad, c7, e5, hbf, hlt7, had⟩ := sec_start HO.out HP0.out
      have HS0 := Aside0.mk (And.intro hbf (And.intro hlt7 had))
      have HE' := Aside0.mk (show secOut rs m (p + 1) (secIn p P rs P) = FIN from HE.out)
      have HPL := Aside0.mk (show P.length ≤ 1000 by
        have q1 := secOut_le rs m (p + 1) (secIn p P rs P)
        rw [HE'.out] at q1
        have q2 := secIn_le p P rs P
        have q3 := HFL.out.1
        omega)
      subst e5
      clear hbf hlt7 had HE
      go_wp2_with (go_at_call 27; refine (HCR.out _).mono ?_; rintro e w2 ⟨vr, rfl, hr0, hb0⟩; have HX := Aside0.mk (And.intro hr0 hb0); clear hr0 hb0; obtain ⟨Ar, cr, er⟩ := Kd.R_slice HX.out.1; rw [nI_len] at er; subst er)
      have HS := Aside0.mk (show SecSt w w2 (.slice (some ad) P.length c7) P ad P (.slice Ar rs.length cr) (numsI rs) from by
        refine ⟨below_step HB.out HX.out.2, Kd.R_below HO.out HX.out.2, Kd.R_lower HX.out.1 (below_size HB.out), fun k h1 h2 => ?_, fun j hj => (cell_heap (by rw [add_blk]; exact HX.out.2.block _ HS0.out.2.1)).trans (HS0.out.1 j hj), Nat.lt_of_lt_of_le HS0.out.2.1 HX.out.2.size, HS0.out.2.2, fun _ => List.prefix_refl _⟩
        have q1 := Kd.R_base HX.out.1 k h1
        have q2 := Kd.R_lt HO.out k h2
        omega)
      go_loopg [5, 25] rs.length (fun g2 s5 s25 wr2 => ∃ (j : Nat) (P2 : List Int), s25 = .int .i64 (j : Int) ∧ j + g2 = rs.length ∧ Aside0 (0 < P2.length) ∧ Aside0 (SecSt w wr2 s5 P2 ad P (.slice Ar rs.length cr) (numsI rs)) ∧ Aside0 (secOut rs m (p + 1) (secIn p P (rs.drop j) P2) = FIN))
      case atStart => exact ⟨0, P, rfl, by omega, ⟨HP0.out⟩, ⟨HS.out⟩, ⟨by rw [List.drop_zero]; exact HE'.out⟩⟩
      case round =>
        obtain ⟨j, P2, rfl, hjg, HP2, HS2, HE2⟩ := hrel
        by_cases hlt : j < rs.length
        · have hltz : (j : Int) < (rs.length : Int) := by omega
          obtain ⟨g3, rfl⟩ : ∃ g, gk = g + 1 := ⟨gk - 1, by omega⟩
          obtain ⟨x, hx⟩ : ∃ x, rs[j] = x := ⟨_, rfl⟩
          have hxr := HM.out x (by rw [← hx]; exact List.getElem_mem hlt)
          obtain ⟨ar, ead, hcell⟩ := Kd.at_int (Kd.R_reads' HS2.out.row).2.2 (j : Int) (by omega) (by rw [nI_len]; exact hltz)
          have hrd : rd (numsI rs) (j : Int) = (x : Int) := by rw [rd_get (by rw [nI_len]; exact hlt)]; simp [numsI, hx]
          rw [hrd, Int.toNat_natCast] at hcell
          obtain ⟨kb, hkb⟩ := Ev.rounds (base_ev hxr.1 hxr.2)
          have HBS := Aside0.mk (fun V => sackbutref02_base.calls kb (x : Int) (prN x : Int) V hkb)
          have hdrop : rs.drop j = x :: rs.drop (j + 1) := by rw [List.drop_eq_getElem_cons hlt, hx]
          subst ead
          clear hx hxr hrd hkb
          by_cases hbp : prN x = p
          · have hbz : ((prN x : Int) != (p : Int)) = false := by rw [hbp]; simp
            have HE3 := Aside0.mk (show secOut rs m (p + 1) (secIn p P (rs.drop (j + 1)) (P2 ++ (P.drop 0).map (fun y => wrap64 (y * (x : Int))))) = FIN by rw [← secIn_head p P x _ P2 hbp, ← hdrop]; exact HE2.out)
            have HBP := Aside0.mk hbp
            clear hdrop hbp HE2
            go_wp2_with (go_at_call 42; refine (HBS.out _).mono ?_; rintro e V2 ⟨rfl, ⟨nd, rfl⟩⟩)
            go_loopg [5, 35] P.length (fun g4 s5 s35 wr3 => ∃ (i : Nat) (P3 : List Int), s35 = .int .i64 (i : Int) ∧ i + g4 = P.length ∧ Aside0 (0 < P3.length) ∧ Aside0 (SecSt w wr3 s5 P3 ad P (.slice (some ar) rs.length cr) (numsI rs)) ∧ Aside0 (secOut rs m (p + 1) (secIn p P (rs.drop (j + 1)) (P3 ++ (P.drop i).map (fun y => wrap64 (y * (x : Int))))) = FIN))
            case atStart => exact ⟨0, P2, rfl, by omega, ⟨HP2.out⟩, ⟨HS2.out.to (pw_below_drewN (Below.refl _ _) _)⟩, ⟨HE3.out⟩⟩
            case round =>
              obtain ⟨i, P3, rfl, hig, HP3, HS3, HE4⟩ := hrel
              by_cases hil : i < P.length
              · have hilz : (i : Int) < (P.length : Int) := by omega
                obtain ⟨g5, rfl⟩ : ∃ g, gk = g + 1 := ⟨gk - 1, by omega⟩
                obtain ⟨v5, e5⟩ : ∃ v, u5 = v := ⟨_, rfl⟩
                have hcb := HS3.out.bef i hil
                have HE5 := Aside0.mk (show secOut rs m (p + 1) (secIn p P (rs.drop (j + 1)) ((P3 ++ [wrap64 (rd P (i : Int) * (x : Int))]) ++ (P.drop (i + 1)).map (fun y => wrap64 (y * (x : Int))))) = FIN by rw [← sec_step P i hil P3 x]; exact HE4.out)
                have hlen3 : P3.length < 1000 := by
                  have q1 := secOut_le rs m (p + 1) (secIn p P (rs.drop (j + 1)) ((P3 ++ [wrap64 (rd P (i : Int) * (x : Int))]) ++ (P.drop (i + 1)).map (fun y => wrap64 (y * (x : Int)))))
                  rw [HE5.out] at q1
                  have q2 := secIn_le p P (rs.drop (j + 1)) ((P3 ++ [wrap64 (rd P (i : Int) * (x : Int))]) ++ (P.drop (i + 1)).map (fun y => wrap64 (y * (x : Int))))
                  have q3 := HFL.out.1
                  simp only [List.length_append, List.length_cons, List.length_nil] at q2
                  omega
                have HL3 := Aside0.mk hlen3
                have hrdP : P.getD i 0 = rd P (i : Int) := rfl
                rw [hrdP] at hcb
                clear hrdP hlen3
                subst e5
                have HG5 := Aside0.mk (show i + (g5 + 1) = P.length from hig)
                clear hig
                go_wp2_with (at_builtin; refine app_keep (w0 := w) w.heap.size rfl (.tmp 39) (.tmp 43) 39 rfl Try.underlying39 info3 u5 P3 _ rfl rfl (HS3.out.own) HS3.out.bel (below_size HS3.out.bel) (by have := HL3.out; omega) ?_; intro v1 w10 ho hb hg hat; have HS4 := Aside0.mk (HS3.out.app ho hb hg hat); clear ho hb hg hat)
                go_roundg g5
                case measure => omega
                case rel => exact ⟨i + 1, _, by first | exact congrArg (Value.int .i64) (wr1 (by have := HPL.out; omega)) | exact congrArg (Value.int .i64) (wr2 (by have := HPL.out; omega)) | go_num, by have := HG5.out; omega, ⟨by simp⟩, ⟨HS4.out⟩, ⟨HE5.out⟩⟩
              · have hilz : ¬ (i : Int) < (P.length : Int) := by omega
                have HE6 := Aside0.mk (show secOut rs m (p + 1) (secIn p P (rs.drop (j + 1)) P3) = FIN by have := HE4.out; rw [show P.drop i = [] from List.drop_of_length_le (by omega), List.map_nil, List.append_nil] at this; exact this)
                clear hig
                go_wp2
                go_roundg g3
                case measure => omega
                case rel => exact ⟨j + 1, _, by first | exact congrArg (Value.int .i64) (wr1 (by have := HL.out; omega)) | exact congrArg (Value.int .i64) (wr2 (by have := HL.out; omega)) | go_num, by omega, ⟨HP3.out⟩, ⟨HS3.out⟩, ⟨HE6.out⟩⟩
          · have hbz : ((prN x : Int) != (p : Int)) = true := bne_iff_ne.2 (by omega)
            have HE3 := Aside0.mk (show secOut rs m (p + 1) (secIn p P (rs.drop (j + 1)) P2) = FIN by have := HE2.out; rw [hdrop, secIn, if_neg hbp] at this; exact this)
            clear hdrop hbp HE2
            go_wp2_with (go_at_call 42; refine (HBS.out _).mono ?_; rintro e V2 ⟨rfl, ⟨nd, rfl⟩⟩)
            go_roundg g3
            case measure => omega
            case rel => exact ⟨j + 1, _, by first | exact congrArg (Value.int .i64) (wr1 (by have := HL.out; omega)) | exact congrArg (Value.int .i64) (wr2 (by have := HL.out; omega)) | go_num, by omega, ⟨HP2.out⟩, ⟨HS2.out.to (pw_below_drewN (Below.refl _ _) _)⟩, ⟨HE3.out⟩⟩
        · have hltz : ¬ (j : Int) < (rs.length : Int) := by omega
          have HE7 := Aside0.mk (show secOut rs m (p + 1) P2 = FIN by have := HE2.out; rw [List.drop_of_length_le (by omega), secIn] at this; exact this)
          go_wp2
          go_roundg m
          case measure => omega
          case rel => exact ⟨p + 1, P2, by first | exact congrArg (Value.int .i64) (wr1 (by omega)) | exact congrArg (Value.int .i64) (wr2 (by omega)) | go_num, by omega, by omega, ⟨HP2.out⟩, ⟨HS2.out.own⟩, ⟨HS2.out.bel⟩, ⟨HE7.out⟩⟩
    · have hpz : ¬ (p : Int) ≤ (n : Int) := by omega
      have hgz : gk = 0 := by omega
      subst hgz
      have HE8 := Aside0.mk (show P = FIN from HE.out)
      obtain ⟨A9, c9, e9⟩ := Kd.R_slice HO.out
      subst e9
      go_wp2
      go_loopg [49] FIN.length (fun g2 s49 wr2 => ∃ i : Nat, s49 = .int .i64 (i : Int) ∧ i + g2 = FIN.length ∧ Aside0 (Kd.R (Kd.int .i64) 3 wr2 w.heap.size (fun _ => True) (.slice A9 P.length c9) P) ∧ Aside0 (Below w.heap.size w wr2) ∧ Aside0 ((FIN.drop i).all (fun x => !(decide (x > 1)) || isRt n a x.toNat) = r))
      case atStart => exact ⟨0, rfl, by omega, ⟨HO.out⟩, ⟨HB.out⟩, ⟨by rw [List.drop_zero]; exact HR.out⟩⟩
      case round =>
        obtain ⟨i, rfl, hig, HO2, HB2, HR2⟩ := hrel
        by_cases hil : i < FIN.length
        · obtain ⟨g3, rfl⟩ : ∃ g, gk = g + 1 := ⟨gk - 1, by omega⟩
          have hPF : P.length = FIN.length := by rw [HE8.out]
          have hilz : (i : Int) < (P.length : Int) := by omega
          obtain ⟨y, hy⟩ : ∃ y, rd P (i : Int) = y := ⟨_, rfl⟩
          have hyF : FIN[i] = y := by rw [← hy, rd_get (by omega)]; simp only [HE8.out]
          obtain ⟨ar, ead, hcell⟩ := Kd.at_int (Kd.R_reads' HO2.out).2.2 (i : Int) (by omega) hilz
          rw [hy, Int.toNat_natCast] at hcell
          subst ead
          have HY := Aside0.mk (HFL.out.2 y (by rw [← hyF]; exact List.getElem_mem hil))
          have HR3 := Aside0.mk (show ((!(decide (y > 1)) || isRt n a y.toNat) && (FIN.drop (i + 1)).all (fun x => !(decide (x > 1)) || isRt n a x.toNat)) = r by have := HR2.out; rw [List.drop_eq_getElem_cons hil, List.all_cons, hyF] at this; exact this)
          have HIL := Aside0.mk (show i < 100000 by have := HFL.out.1; omega)
          clear hy hyF hPF
          by_cases hy1 : y > 1
          · obtain ⟨s, rfl⟩ : ∃ s : Nat, y = (s : Int) := ⟨y.toNat, by omega⟩
            have HI := Aside0.mk (HIS.out s (by omega) (by have := HY.out.2.1; omega))
            cases hb : isRt n a s with
            | true =>
              rw [hb] at HI
              have HR4 := Aside0.mk (show (FIN.drop (i + 1)).all (fun x => !(decide (x > 1)) || isRt n a x.toNat) = r by have := HR3.out; rw [Int.toNat_natCast, hb, Bool.or_true, Bool.true_and] at this; exact this)
              clear hb
              go_wp2_with (go_at_call 43; refine (HI.out _).mono ?_; rintro e V2 ⟨rfl, hb2⟩; have HB3 := Aside0.mk hb2; clear hb2)
              go_roundg g3
              case measure => omega
              case rel => exact ⟨i + 1, by first | exact congrArg (Value.int .i64) (wr1 HIL.out) | exact congrArg (Value.int .i64) (wr2 HIL.out) | go_num, by omega, ⟨Kd.R_below HO2.out HB3.out⟩, ⟨below_step HB2.out HB3.out⟩, ⟨HR4.out⟩⟩
            | false =>
              rw [hb] at HI
              have HR4 := Aside0.mk (show false = r by have := HR3.out; rw [Int.toNat_natCast, hb, decide_eq_true hy1] at this; exact this)
              clear hb
              go_wp2_with (go_at_call 43; refine (HI.out _).mono ?_; rintro e V2 ⟨rfl, hb2⟩; have HB3 := Aside0.mk hb2; clear hb2)
              go_ret
              exact ⟨by rw [← HR4.out]; rfl, below_step HB2.out HB3.out⟩
          · have HR4 := Aside0.mk (show (FIN.drop (i + 1)).all (fun x => !(decide (x > 1)) || isRt n a x.toNat) = r by have := HR3.out; rw [decide_eq_false hy1] at this; exact this)
            go_wp2
            go_roundg g3
            case measure => omega
            case rel => exact ⟨i + 1, by first | exact congrArg (Value.int .i64) (wr1 HIL.out) | exact congrArg (Value.int .i64) (wr2 HIL.out) | go_num, by omega, ⟨HO2.out⟩, ⟨HB2.out⟩, ⟨HR4.out⟩⟩
        · have hPF : P.length = FIN.length := by rw [HE8.out]
          have hilz : ¬ (i : Int) < (P.length : Int) := by omega
          have HR4 := Aside0.mk (show true = r by have := HR2.out; rw [List.drop_of_length_le (by omega)] at this; exact this)
          go_wp2
          go_ret
          exact ⟨by rw [← HR4.out]; rfl, HB2.out⟩

end Go.Proofs.Ytkidgakjeahebaa.P
namespace Go.Proofs.Ytkidgakjeahebaa.P
/-! All partners of a rhythm by filling the first free beat: what such a search comes to. Plain Lean. -/
theorem cnt_le_of {p q : Nat → Bool} (n : Nat) (h : ∀ i, i < n → p i = true → q i = true) : cnt n p ≤ cnt n q := by
  rw [cnt_eq, cnt_eq]
  refine List.countP_mono_left (fun x hx hp => ?_)
  exact h x (List.mem_range.1 hx) hp
theorem cnt_lt_of {p q : Nat → Bool} : ∀ (n : Nat), (∀ i, i < n → p i = true → q i = true) → ∀ j, j < n → p j = false → q j = true → cnt n p < cnt n q
  | 0, _, j, hj, _, _ => by omega
  | n + 1, h, j, hj, h1, h2 => by
    rw [cnt_succ, cnt_succ]
    by_cases e : j = n
    · subst e
      have := cnt_le_of (p := p) (q := q) j (fun i hi => h i (by omega))
      rw [h1, h2]; simp; omega
    · have := cnt_lt_of n (fun i hi => h i (by omega)) j (by omega) h1 h2
      have h3 := h n (by omega)
      cases hp : p n with
      | false => simp; omega
      | true => rw [h3 hp]; simp; omega
/-- two rhythms fill the circle: each beat is met, by one entry -/
def Fills (n a c : Nat) : Prop := (∀ x, x < n → ∃ y, y < n ∧ c.testBit y = true ∧ (moveN n a y).testBit x = true) ∧
  (∀ x, x < n → ∀ y, y < n → ∀ z, z < n → c.testBit y = true → c.testBit z = true → (moveN n a y).testBit x = true → (moveN n a z).testBit x = true → y = z)
theorem tiled_fills {n a c : Nat} : Tiled n a c ↔ Fills n a c := by
  constructor
  · intro h
    refine ⟨fun x hx => ?_, fun x hx y hy z hz h1 h2 h3 h4 => ?_⟩
    · obtain ⟨y, h1, h2, h3, _⟩ := tiled_enter h hx
      exact ⟨y, h1, h2, h3⟩
    · obtain ⟨w, _, _, _, _, hu⟩ := tiled_enter h hx
      rw [hu y hy h1 h3, hu z hz h2 h4]
  · rintro ⟨h1, h2⟩ x hx
    obtain ⟨y, hy, hc, hm⟩ := h1 x hx
    have h3 : 1 ≤ cv n a c n x := cnt_pos (p := fun y => c.testBit y && (moveN n a y).testBit x) hy (by simp [hc, hm])
    have h4 : cv n a c n x ≤ 1 := by
      have : cv n a c n x ≤ cnt n (fun i => decide (i = y)) := cnt_le_of n (fun i hi hp => by
        simp only [Bool.and_eq_true] at hp
        simpa using h2 x hx i hi y hy hp.1 hc hp.2 hm)
      have h5 : ∀ m, cnt m (fun i => decide (i = y)) ≤ 1 := by
        intro m
        rcases Nat.lt_or_ge (cnt m (fun i => decide (i = y))) 2 with h | h
        · omega
        · exfalso
          induction m with
          | zero => rw [cnt_zero] at h; omega
          | succ m ih =>
            rw [cnt_succ] at h
            by_cases e : m = y
            · subst e
              have : cnt m (fun i => decide (i = m)) = 0 := by
                have e1 := cnt_congr (n := m) (p := fun i => decide (i = m)) (q := fun _ => false) (fun i hi => by simp; omega)
                rw [e1, cnt_eq]; simp
              simp at h; omega
            · simp [e] at h
              exact ih h
      have := h5 n
      omega
    omega
/-- the first beat that is free -/
def lowFree (F : Nat) : Nat → Nat → Nat
  | 0, i => i
  | d + 1, i => if F.testBit i then lowFree F d (i + 1) else i
theorem lowFree_spec {F : Nat} : ∀ (d i : Nat), (∀ j, j < i → F.testBit j = true) → (∃ j, i ≤ j ∧ j < i + d ∧ F.testBit j = false) →
    lowFree F d i < i + d ∧ F.testBit (lowFree F d i) = false ∧ ∀ j, j < lowFree F d i → F.testBit j = true
  | 0, i, _, h => by obtain ⟨j, h1, h2, _⟩ := h; omega
  | d + 1, i, h0, h => by
    simp only [lowFree]
    cases hb : F.testBit i with
    | false => simp only [Bool.false_eq_true, if_false]; exact ⟨by omega, hb, h0⟩
    | true =>
      simp only [if_true]
      have := lowFree_spec d (i + 1) (fun j hj => by
        by_cases e : j = i
        · subst e; exact hb
        · exact h0 j (by omega)) (by
        obtain ⟨j, h1, h2, h3⟩ := h
        refine ⟨j, ?_, by omega, h3⟩
        by_cases e : j = i
        · subst e; rw [hb] at h3; cases h3
        · omega)
      exact ⟨by omega, this.2⟩
def freeAt (n F : Nat) : Nat := lowFree F n 0
theorem freeAt_spec {n F : Nat} (hF : F < 2 ^ n) (h : F ≠ 2 ^ n - 1) : freeAt n F < n ∧ F.testBit (freeAt n F) = false ∧ ∀ j, j < freeAt n F → F.testBit j = true := by
  have := lowFree_spec (F := F) n 0 (fun j hj => by omega) (by
    rcases Classical.em (∃ j, j < n ∧ F.testBit j = false) with ⟨j, h1, h2⟩ | h'
    · exact ⟨j, by omega, by omega, h2⟩
    · exfalso
      refine h ((fillsAll_iff hF).2 (fun x hx => ?_))
      cases hb : F.testBit x with
      | true => rfl
      | false => exact absurd ⟨x, hx, hb⟩ h')
  unfold freeAt
  exact ⟨by omega, this.2⟩
def vis (n a : Nat) (st : Nat → Nat → Option Nat) : Nat → Nat → Nat → List Nat
  | 0, _, _ => []
  | d + 1, b, F => if F = 2 ^ n - 1 then [b] else (List.range n).flatMap fun x =>
      match st (freeAt n F) x with
      | some k => if moveN n a k &&& F = 0 then vis n a st d (b ||| 2 ^ k) (F ||| moveN n a k) else []
      | none => []
/-- what the entries chosen so far fill -/
def Part (n a b F : Nat) : Prop := b < 2 ^ n ∧ F < 2 ^ n ∧ (∀ x, x < n → (F.testBit x = true ↔ ∃ y, y < n ∧ b.testBit y = true ∧ (moveN n a y).testBit x = true)) ∧
  (∀ x, x < n → ∀ y, y < n → ∀ z, z < n → b.testBit y = true → b.testBit z = true → (moveN n a y).testBit x = true → (moveN n a z).testBit x = true → y = z)
/-- the ways in which a free beat can be filled, each once -/
def StepOk (n a : Nat) (st : Nat → Nat → Option Nat) : Prop := (∀ f x k, f < n → x < n → st f x = some k → k < n ∧ (moveN n a k).testBit f = true) ∧
  (∀ f k, f < n → k < n → (moveN n a k).testBit f = true → ∃ x, x < n ∧ st f x = some k) ∧ (∀ f x y k, f < n → x < n → y < n → st f x = some k → st f y = some k → x = y)
theorem moveN_self {n a y : Nat} (ha : a < 2 ^ n) (h0 : a.testBit 0 = true) (hy : y < n) : (moveN n a y).testBit y = true := by
  rw [testBit_moveN ha hy hy]
  have : (y + (n - y)) % n = 0 := by rw [show y + (n - y) = n by omega, Nat.mod_self]
  rw [this]; exact h0
theorem Part.add {n a b F k : Nat} (h : Part n a b F) (hk : k < n) (hm : moveN n a k &&& F = 0) : Part n a (b ||| 2 ^ k) (F ||| moveN n a k) := by
  obtain ⟨hb, hF, h1, h2⟩ := h
  have hp : 2 ^ k < 2 ^ n := Nat.pow_lt_pow_right (by omega) hk
  have hno : ∀ x, x < n → (moveN n a k).testBit x = true → F.testBit x = false := by
    intro x hx hx1
    have : (moveN n a k &&& F).testBit x = false := by rw [hm]; simp
    rw [Nat.testBit_and, hx1, Bool.true_and] at this
    exact this
  refine ⟨Nat.or_lt_two_pow hb hp, Nat.or_lt_two_pow hF (moveN_lt n a k), fun x hx => ?_, fun x hx y hy z hz => ?_⟩
  · rw [Nat.testBit_or, Bool.or_eq_true, h1 x hx]
    constructor
    · rintro (⟨y, h3, h4, h5⟩ | h3)
      · exact ⟨y, h3, by rw [testBit_or_two_pow, h4]; rfl, h5⟩
      · exact ⟨k, hk, by rw [testBit_or_two_pow]; simp, h3⟩
    · rintro ⟨y, h3, h4, h5⟩
      rw [testBit_or_two_pow, Bool.or_eq_true, decide_eq_true_eq] at h4
      rcases h4 with h4 | rfl
      · exact .inl ⟨y, h3, h4, h5⟩
      · exact .inr h5
  · rw [testBit_or_two_pow, testBit_or_two_pow, Bool.or_eq_true, Bool.or_eq_true, decide_eq_true_eq, decide_eq_true_eq]
    rintro (h3 | rfl) (h4 | rfl) h5 h6
    · exact h2 x hx y hy z hz h3 h4 h5 h6
    · exfalso
      have := hno x hx h6
      rw [(h1 x hx).2 ⟨y, hy, h3, h5⟩] at this; cases this
    · exfalso
      have := hno x hx h5
      rw [(h1 x hx).2 ⟨z, hz, h4, h6⟩] at this; cases this
    · rfl
theorem vis_spec {n a : Nat} {st : Nat → Nat → Option Nat} (ha : a < 2 ^ n) (h0 : a.testBit 0 = true) (hst : StepOk n a st) : ∀ (d b F : Nat), Part n a b F → cnt n (fun i => !F.testBit i) < d →
    (vis n a st d b F).Nodup ∧ ∀ c, c ∈ vis n a st d b F ↔ (c < 2 ^ n ∧ Fills n a c ∧ ∀ y, b.testBit y = true → c.testBit y = true)
  | 0, b, F, _, hd => by omega
  | d + 1, b, F, hP, hd => by
    have hP' := hP
    obtain ⟨hb, hF, h1, h2⟩ := hP
    simp only [vis]
    by_cases e : F = 2 ^ n - 1
    · rw [if_pos e]
      have hall := (fillsAll_iff hF).1 e
      refine ⟨by simp, fun c => ?_⟩
      rw [List.mem_singleton]
      constructor
      · rintro rfl
        exact ⟨hb, ⟨fun x hx => (h1 x hx).1 (hall x hx), h2⟩, fun _ h => h⟩
      · rintro ⟨hc, ⟨h3, h4⟩, h5⟩
        refine bits_ext hc hb (fun i hi => ?_)
        cases hbi : b.testBit i with
        | true => exact h5 i hbi
        | false =>
          cases hci : c.testBit i with
          | false => rfl
          | true =>
            exfalso
            obtain ⟨z, hz, hbz, hmz⟩ := (h1 i hi).1 (hall i hi)
            have := h4 i hi i hi z hz hci (h5 z hbz) (moveN_self ha h0 hi) hmz
            subst this
            rw [hbi] at hbz; cases hbz
    · rw [if_neg e]
      obtain ⟨hf, hf0, _⟩ := freeAt_spec hF e
      obtain ⟨s1, s2, s3⟩ := hst
      have ih : ∀ k, k < n → (moveN n a k).testBit (freeAt n F) = true → moveN n a k &&& F = 0 → _ := fun k hk hkf hm =>
        vis_spec ha h0 ⟨s1, s2, s3⟩ d (b ||| 2 ^ k) (F ||| moveN n a k) (hP'.add hk hm) (by
          have := cnt_lt_of (p := fun i => !(F ||| moveN n a k).testBit i) (q := fun i => !F.testBit i) n (fun i _ hp => by
            rw [Nat.testBit_or] at hp; cases hq : F.testBit i <;> simp_all) (freeAt n F) hf (by rw [Nat.testBit_or, hkf]; simp) (by rw [hf0]; rfl)
          omega)
      have hmem : ∀ x c, x < n → (c ∈ (match st (freeAt n F) x with
          | some k => if moveN n a k &&& F = 0 then vis n a st d (b ||| 2 ^ k) (F ||| moveN n a k) else []
          | none => []) ↔ ∃ k, st (freeAt n F) x = some k ∧ moveN n a k &&& F = 0 ∧ c < 2 ^ n ∧ Fills n a c ∧ ∀ y, (b ||| 2 ^ k).testBit y = true → c.testBit y = true) := by
        intro x c hx
        cases hs : st (freeAt n F) x with
        | none => simp
        | some k =>
          obtain ⟨hk, hkf⟩ := s1 _ _ _ hf hx hs
          by_cases hm : moveN n a k &&& F = 0
          · simp only [hm, if_true]
            rw [(ih k hk hkf hm).2 c]
            constructor
            · rintro ⟨h3, h4, h5⟩; exact ⟨k, rfl, hm, h3, h4, h5⟩
            · rintro ⟨k', e', _, h3, h4, h5⟩; cases e'; exact ⟨h3, h4, h5⟩
          · simp only [hm, if_false]
            constructor
            · intro h; cases h
            · rintro ⟨k', e', hm', _⟩; cases e'; exact absurd hm' hm
      constructor
      · refine List.pairwise_flatMap.2 ⟨fun x hx => ?_, ?_⟩
        · rw [List.mem_range] at hx
          cases hs : st (freeAt n F) x with
          | none => exact List.Pairwise.nil
          | some k =>
            obtain ⟨hk, hkf⟩ := s1 _ _ _ hf hx hs
            by_cases hm : moveN n a k &&& F = 0
            · simp only [hm, if_true]; exact (ih k hk hkf hm).1
            · simp only [hm, if_false]; exact List.Pairwise.nil
        · refine List.Pairwise.imp_of_mem (R := fun x y => x < y) ?_ List.pairwise_lt_range
          intro x y hx hy hxy c hc c' hc' hcc
          rw [List.mem_range] at hx hy
          subst hcc
          obtain ⟨k, hs, _, hcl, hfc, hsub⟩ := (hmem x c hx).1 hc
          obtain ⟨k', hs', _, _, _, hsub'⟩ := (hmem y c hy).1 hc'
          obtain ⟨hk, hkf⟩ := s1 _ _ _ hf hx hs
          obtain ⟨hk', hkf'⟩ := s1 _ _ _ hf hy hs'
          have e1 := hsub k (by rw [testBit_or_two_pow]; simp)
          have e2 := hsub' k' (by rw [testBit_or_two_pow]; simp)
          have := hfc.2 _ hf k hk k' hk' e1 e2 hkf hkf'
          subst this
          have := s3 _ _ _ _ hf hx hy hs hs'
          omega
      · intro c
        rw [List.mem_flatMap]
        constructor
        · rintro ⟨x, hx, hc⟩
          rw [List.mem_range] at hx
          obtain ⟨k, _, _, h3, h4, h5⟩ := (hmem x c hx).1 hc
          exact ⟨h3, h4, fun y hy => h5 y (by rw [testBit_or_two_pow, hy]; rfl)⟩
        · rintro ⟨hc, hfc, hsub⟩
          obtain ⟨k, hk, hck, hkf⟩ := hfc.1 _ hf
          obtain ⟨x, hx, hs⟩ := s2 _ k hf hk hkf
          refine ⟨x, List.mem_range.2 hx, (hmem x c hx).2 ⟨k, hs, ?_, hc, hfc, fun y hy => ?_⟩⟩
          · refine bits_ext (n := n) (Nat.lt_of_le_of_lt Nat.and_le_left (moveN_lt n a k)) (Nat.two_pow_pos n) (fun i hi => ?_)
            rw [Nat.zero_testBit, Nat.testBit_and]
            cases hi1 : (moveN n a k).testBit i with
            | false => rfl
            | true =>
              cases hi2 : F.testBit i with
              | false => rfl
              | true =>
                exfalso
                obtain ⟨z, hz, hbz, hmz⟩ := (h1 i hi).1 hi2
                have := hfc.2 i hi k hk z hz hck (hsub z hbz) hi1 hmz
                subst this
                rw [(h1 _ hf).2 ⟨k, hk, hbz, hkf⟩] at hf0; cases hf0
          · rw [testBit_or_two_pow, Bool.or_eq_true, decide_eq_true_eq] at hy
            rcases hy with hy | rfl
            · exact hsub y hy
            · exact hck
theorem moveN_zero {n a : Nat} (hn : 1 ≤ n) (ha : a < 2 ^ n) : moveN n a 0 = a :=
  bits_ext (moveN_lt n a 0) ha (fun i hi => by rw [testBit_moveN ha (by omega) hi]; congr 1; rw [Nat.sub_zero, Nat.add_mod_right, Nat.mod_eq_of_lt hi])
theorem one_bit (y : Nat) : (1 : Nat).testBit y = decide (y = 0) := by
  cases y with
  | zero => rfl
  | succ y => rw [Nat.testBit_succ]; simp
theorem Part.start {n a : Nat} (hn : 1 ≤ n) (ha : a < 2 ^ n) : Part n a 1 a := by
  have h1 := one_bit
  refine ⟨Nat.lt_of_lt_of_le (by decide : 1 < 2 ^ 1) (Nat.pow_le_pow_right (by omega) hn), ha, fun x hx => ?_, fun x hx y hy z hz h2 h3 _ _ => ?_⟩
  · constructor
    · intro h; exact ⟨0, by omega, by rw [h1]; rfl, by rw [moveN_zero hn ha]; exact h⟩
    · rintro ⟨y, hy, h2, h3⟩
      rw [h1, decide_eq_true_eq] at h2
      subst h2
      rw [moveN_zero hn ha] at h3; exact h3
  · rw [h1, decide_eq_true_eq] at h2 h3; omega
/-- the way of the program: the beats of a, in order; the way of the document: the entries, in order -/
def stA (n a f x : Nat) : Option Nat := if a.testBit x then some ((f + (n - x)) % n) else none
def stR (n a f y : Nat) : Option Nat := if (moveN n a y).testBit f then some y else none
theorem sub_mod_two {n f x : Nat} (hf : f < n) (hx : x < n) : (f + (n - (f + (n - x)) % n)) % n = x := by
  rcases Nat.lt_or_ge f x with h | h
  · rw [Nat.mod_eq_of_lt (show f + (n - x) < n by omega), show f + (n - (f + (n - x))) = x by omega, Nat.mod_eq_of_lt hx]
  · have e : (f + (n - x)) % n = f - x := by
      rw [show f + (n - x) = (f - x) + n by omega, Nat.add_mod_right, Nat.mod_eq_of_lt (by omega)]
    rw [e]
    rw [show f + (n - (f - x)) = x + n by omega, Nat.add_mod_right, Nat.mod_eq_of_lt hx]
theorem stepOk_A {n a : Nat} (ha : a < 2 ^ n) : StepOk n a (stA n a) := by
  refine ⟨fun f x k hf hx h => ?_, fun f k hf hk h => ?_, fun f x y k hf hx hy h h' => ?_⟩
  · unfold stA at h
    split at h
    · rename_i hb
      cases h
      have hk : (f + (n - x)) % n < n := Nat.mod_lt _ (by omega)
      refine ⟨hk, ?_⟩
      rw [testBit_moveN ha hk hf, sub_mod_two hf hx]; exact hb
    · cases h
  · rw [testBit_moveN ha hk hf] at h
    refine ⟨(f + (n - k)) % n, Nat.mod_lt _ (by omega), ?_⟩
    unfold stA
    rw [if_pos h, sub_mod_two hf hk]
  · unfold stA at h h'
    split at h
    · split at h'
      · cases h; injection h' with h'
        have := sub_mod_two hf hx; have := sub_mod_two hf hy; rw [h'] at this; omega
      · cases h'
    · cases h
theorem stepOk_R {n a : Nat} : StepOk n a (stR n a) := by
  refine ⟨fun f x k hf hx h => ?_, fun f k hf hk h => ⟨k, hk, by unfold stR; rw [if_pos h]⟩, fun f x y k hf hx hy h h' => ?_⟩
  · unfold stR at h
    split at h
    · rename_i hb; cases h; exact ⟨hx, hb⟩
    · cases h
  · unfold stR at h h'
    split at h
    · split at h'
      · cases h; injection h' with h'; exact h'.symm
      · cases h'
    · cases h
theorem start_cnt {n a : Nat} : cnt n (fun i => !a.testBit i) < n + 1 := by have := cnt_le n (fun i => !a.testBit i); omega
theorem partners_spec {n a : Nat} {st : Nat → Nat → Option Nat} (hn : 1 ≤ n) (ha : a < 2 ^ n) (h0 : a.testBit 0 = true) (hst : StepOk n a st) :
    (vis n a st (n + 1) 1 a).Nodup ∧ ∀ c, c ∈ vis n a st (n + 1) 1 a ↔ (c < 2 ^ n ∧ Tiled n a c ∧ c.testBit 0 = true) := by
  obtain ⟨h1, h2⟩ := vis_spec ha h0 hst (n + 1) 1 a (Part.start hn ha) start_cnt
  refine ⟨h1, fun c => ?_⟩
  rw [h2 c, tiled_fills]
  constructor
  · rintro ⟨h3, h4, h5⟩; exact ⟨h3, h4, h5 0 rfl⟩
  · rintro ⟨h3, h4, h5⟩
    refine ⟨h3, h4, fun y hy => ?_⟩
    rw [one_bit, decide_eq_true_eq] at hy
    subst hy; exact h5
theorem part_full {n a b F : Nat} (h : Part n a b F) (e : F = 2 ^ n - 1) : Tiled n a b := by
  obtain ⟨_, _, h3, h4⟩ := h
  refine tiled_fills.2 ⟨fun x hx => (h3 x hx).1 ?_, h4⟩
  rw [e, Nat.testBit_two_pow_sub_one]; simp [hx]
/-- lists without repetition with the same members are equally long -/
theorem nodup_length_le : ∀ (l l' : List Nat), l.Nodup → (∀ c, c ∈ l → c ∈ l') → l.length ≤ l'.length
  | [], _, _, _ => Nat.zero_le _
  | c :: l, l', hd, hs => by
    have h1 := hs c (by simp)
    have hd' := List.nodup_cons.1 hd
    have := nodup_length_le l (l'.erase c) hd'.2 (fun x hx => by
      have hx' := hs x (by simp [hx])
      have hne : x ≠ c := fun e => hd'.1 (e ▸ hx)
      exact (List.mem_erase_of_ne hne).2 hx')
    rw [List.length_erase_of_mem h1] at this
    have hp : 0 < l'.length := List.length_pos_of_mem h1
    simp only [List.length_cons]; omega
end Go.Proofs.Ytkidgakjeahebaa.P
namespace Go.Proofs.Ytkidgakjeahebaa.P
/-! Two rhythms fill the circle just where they have no difference in common and as many beats as there are. Plain Lean. -/
def hasD (n a d : Nat) : Prop := ∃ x, x < n ∧ ∃ y, y < n ∧ a.testBit x = true ∧ a.testBit y = true ∧ (x + (n - y)) % n = d
theorem back_if {n x y : Nat} (hx : x < n) (hy : y < n) : (x + (n - y)) % n = if y ≤ x then x - y else x + n - y := by
  by_cases h : y ≤ x
  · rw [if_pos h, show x + (n - y) = (x - y) + n by omega, Nat.add_mod_right, Nat.mod_eq_of_lt (by omega)]
  · rw [if_neg h, Nat.mod_eq_of_lt (by omega)]; omega
theorem plus_if {n x y : Nat} (hx : x < n) (hy : y < n) : (x + y) % n = if x + y < n then x + y else x + y - n := by
  by_cases h : x + y < n
  · rw [if_pos h, Nat.mod_eq_of_lt h]
  · rw [if_neg h, Nat.mod_eq_sub_mod (by omega), Nat.mod_eq_of_lt (by omega)]
theorem cnt_le_one {p : Nat → Bool} : ∀ n, (∀ y, y < n → ∀ z, z < n → p y = true → p z = true → y = z) → cnt n p ≤ 1
  | 0, _ => by rw [cnt_zero]; omega
  | n + 1, h => by
    have ih := cnt_le_one n (fun y hy z hz => h y (by omega) z (by omega))
    rw [cnt_succ]
    cases hp : p n with
    | false => simp; exact ih
    | true =>
      have : cnt n p = 0 := by
        rcases Nat.eq_zero_or_pos (cnt n p) with e | e
        · exact e
        · obtain ⟨y, hy, h1, _⟩ := cnt_first n e
          have := h y (by omega) n (by omega) h1 hp
          omega
      simp; omega
theorem sumTo_full {f : Nat → Nat} : ∀ m, (∀ i, i < m → f i ≤ 1) → sumTo f m = m → ∀ i, i < m → f i = 1
  | 0, _, _, i, hi => by omega
  | m + 1, h, hs, i, hi => by
    have h1 := sumTo_le (c := 1) m (fun i hi => h i (by omega)); have h2 := h m (by omega)
    simp only [sumTo] at hs
    rcases Nat.lt_or_ge i m with c | c
    · exact sumTo_full m (fun i hi => h i (by omega)) (by omega) i c
    · obtain rfl : i = m := by omega
      omega
theorem move_at {n a v w : Nat} (ha : a < 2 ^ n) (hv : v < n) (hw : w < n) : (moveN n a v).testBit w = a.testBit (if v ≤ w then w - v else w + n - v) := by
  rw [testBit_moveN ha hv hw, back_if hw hv]
theorem tiled_diff {n a b : Nat} (ha : a < 2 ^ n) : Tiled n a b ↔ (∀ d, 1 ≤ d → d < n → ¬ (hasD n a d ∧ hasD n b d)) ∧ chSize n a * chSize n b = n := by
  constructor
  · intro ht
    refine ⟨?_, tiled_size ha ht⟩
    rintro d hd hdn ⟨⟨x, hx, y, hy, ax, ay, e1⟩, ⟨u, hu, v, hv, bu, bv, e2⟩⟩
    have hw : (x + v) % n < n := Nat.mod_lt _ (by omega)
    have hu' := (tiled_fills.1 ht).2 ((x + v) % n) hw u hu v hv bu bv
    rw [back_if hx hy] at e1
    rw [back_if hu hv] at e2
    have m1 : (moveN n a v).testBit ((x + v) % n) = true := by
      rw [move_at ha hv hw]
      rw [plus_if hx hv] at hw ⊢
      rw [← ax]; congr 1
      split <;> split <;> omega
    have m2 : (moveN n a u).testBit ((x + v) % n) = true := by
      rw [move_at ha hu hw]
      rw [plus_if hx hv] at hw ⊢
      rw [← ay]; congr 1
      split at e1 <;> split at e2 <;> split <;> split <;> omega
    have := hu' m2 m1
    subst this
    rw [if_pos (Nat.le_refl _)] at e2
    omega
  · rintro ⟨h, hs⟩
    rw [← cv_sum ha] at hs
    refine sumTo_full n (fun x hx => ?_) hs
    unfold cv
    refine cnt_le_one n (fun u hu v hv hp hq => ?_)
    simp only [Bool.and_eq_true] at hp hq
    obtain ⟨bu, mu⟩ := hp
    obtain ⟨bv, mv⟩ := hq
    rw [testBit_moveN ha hu hx] at mu
    rw [testBit_moveN ha hv hx] at mv
    have l1 : (x + (n - u)) % n < n := Nat.mod_lt _ (by omega)
    have l2 : (x + (n - v)) % n < n := Nat.mod_lt _ (by omega)
    refine Classical.byContradiction (fun hne => ?_)
    have e : ((x + (n - v)) % n + (n - (x + (n - u)) % n)) % n = (u + (n - v)) % n := by
      rw [back_if l2 l1, back_if hu hv]
      rw [back_if hx hu, back_if hx hv] at *
      split <;> split <;> split <;> split <;> omega
    refine h ((u + (n - v)) % n) ?_ (Nat.mod_lt _ (by omega)) ⟨⟨_, l2, _, l1, mv, mu, e⟩, ⟨u, hu, v, hv, bu, bv, rfl⟩⟩
    rw [back_if hu hv]
    split <;> omega
end Go.Proofs.Ytkidgakjeahebaa.P
namespace Go.Proofs.Ytkidgakjeahebaa.P
/-! Periods of a rhythm. Plain Lean. -/
def IsPer (n a d : Nat) : Prop := 1 ≤ d ∧ d ≤ n ∧ n % d = 0 ∧ moveN n a d = a
instance (n a d : Nat) : Decidable (IsPer n a d) := by unfold IsPer; infer_instance
theorem moveN_all {n a : Nat} (ha : a < 2 ^ n) : moveN n a n = a := by
  unfold moveN
  rw [Nat.sub_self, Nat.pow_zero, Nat.div_one]
  refine bits_ext (n := n) (Nat.lt_of_le_of_lt Nat.and_le_right (by have := Nat.two_pow_pos n; omega)) ha (fun i hi => ?_)
  rw [Nat.testBit_and, Nat.testBit_or, Nat.testBit_two_pow_sub_one, ← Nat.shiftLeft_eq, Nat.testBit_shiftLeft]
  simp [hi, Nat.not_le.2 hi]
theorem isPer_all {n a : Nat} (hn : 1 ≤ n) (ha : a < 2 ^ n) : IsPer n a n := ⟨hn, Nat.le_refl _, Nat.mod_self n, moveN_all ha⟩
theorem least_per {n a : Nat} (hn : 1 ≤ n) (ha : a < 2 ^ n) : ∃ p, IsPer n a p ∧ ∀ d, d < p → ¬ IsPer n a d := by
  have go : ∀ m, (∃ p, p ≤ m ∧ IsPer n a p) → ∃ p, IsPer n a p ∧ ∀ d, d < p → ¬ IsPer n a d := by
    intro m
    induction m with
    | zero =>
      rintro ⟨p, hp, h⟩
      exact ⟨p, h, fun d hd => by omega⟩
    | succ m ih =>
      rintro ⟨p, hp, h⟩
      by_cases hq : ∃ q, q ≤ m ∧ IsPer n a q
      · exact ih hq
      · exact ⟨p, h, fun d hd hd2 => hq ⟨d, by omega, hd2⟩⟩
  exact go n ⟨n, Nat.le_refl _, isPer_all hn ha⟩
theorem per_bit {n a d : Nat} (ha : a < 2 ^ n) (h : IsPer n a d) : ∀ (q x : Nat), x + q * d < n → a.testBit (x + q * d) = a.testBit x := by
  obtain ⟨h1, h2, h3, h4⟩ := h
  intro q
  induction q with
  | zero => intro x _; rw [Nat.zero_mul, Nat.add_zero]
  | succ q ih =>
    intro x hx
    rw [Nat.succ_mul] at hx
    rw [← ih x (by omega)]
    rcases Nat.lt_or_ge d n with c | c
    · have h5 := testBit_moveN (i := x + (q + 1) * d) ha c (by rw [Nat.succ_mul]; omega)
      rw [h4] at h5
      rw [h5]
      congr 1
      rw [Nat.succ_mul, show x + (q * d + d) + (n - d) = x + q * d + n by omega, Nat.add_mod_right, Nat.mod_eq_of_lt (by omega)]
    · omega
/-- the beats of one period, gathered -/
def foldTo (a d : Nat) : Nat → Nat
  | 0 => 0
  | x + 1 => if a.testBit x then foldTo a d x ||| 2 ^ (x % d) else foldTo a d x
theorem foldTo_bit {n a d : Nat} (ha : a < 2 ^ n) (h : IsPer n a d) (i : Nat) : ∀ x, x ≤ n → (foldTo a d x).testBit i = (decide (i < d) && (decide (i < x) && a.testBit i)) := by
  have h1 := h.1
  intro x
  induction x with
  | zero => intro _; simp [foldTo]
  | succ x ih =>
    intro hx
    have hi := ih (by omega)
    have hp := per_bit ha h (x / d) (x % d) (by rw [Nat.mul_comm, Nat.mod_add_div]; omega)
    rw [Nat.mul_comm, Nat.mod_add_div] at hp
    have hmd := Nat.mod_lt x (show d > 0 by omega)
    have hml := Nat.mod_le x d
    simp only [foldTo]
    cases hb : a.testBit x with
    | true =>
      rw [if_pos rfl, Nat.testBit_or, hi, Nat.testBit_two_pow]
      rw [hb] at hp
      by_cases e : x % d = i
      · subst e
        rw [← hp]
        simp only [decide_true, Bool.or_true, Bool.and_true]
        rw [decide_eq_true hmd, decide_eq_true (show x % d < x + 1 by omega)]
        rfl
      · rw [decide_eq_false e, Bool.or_false]
        by_cases hid : i < d
        · rw [decide_eq_true hid, Bool.true_and, Bool.true_and]
          have : decide (i < x) = decide (i < x + 1) := by
            rw [decide_eq_decide]
            have : i ≠ x := fun h => e (by rw [← h, Nat.mod_eq_of_lt hid])
            omega
          rw [this]
        · rw [decide_eq_false hid, Bool.false_and, Bool.false_and]
    | false =>
      rw [if_neg (by simp), hi]
      by_cases e : i = x
      · subst e; rw [hb]; simp
      · have : decide (i < x) = decide (i < x + 1) := by rw [decide_eq_decide]; omega
        rw [this]
theorem foldTo_all {n a d : Nat} (ha : a < 2 ^ n) (h : IsPer n a d) : foldTo a d n = a &&& (2 ^ d - 1) := by
  refine Nat.eq_of_testBit_eq (fun i => ?_)
  rw [foldTo_bit ha h i n (Nat.le_refl _), Nat.testBit_and, Nat.testBit_two_pow_sub_one]
  by_cases hi : i < d
  · have := h.2.1
    rw [decide_eq_true hi, decide_eq_true (show i < n by omega)]; simp
  · rw [decide_eq_false hi]; simp
theorem foldTo_lt {n a d : Nat} (hd : 1 ≤ d) (hdn : d ≤ n) : ∀ x, foldTo a d x < 2 ^ n
  | 0 => Nat.two_pow_pos n
  | x + 1 => by
    have h := foldTo_lt (n := n) (a := a) hd hdn x
    simp only [foldTo]
    split
    · exact Nat.or_lt_two_pow h (Nat.pow_lt_pow_right (by omega) (Nat.lt_of_lt_of_le (Nat.mod_lt x (by omega)) hdn))
    · exact h
end Go.Proofs.Ytkidgakjeahebaa.P
namespace Go.Proofs.Ytkidgakjeahebaa.P
/-! Of two rhythms that fill a circle of at most 24 beats one has a period: one of them has at most four beats; all such are looked through. Plain Lean. -/
/-- the search for partners, over the beats of a, with a test at each end -/
def visOk (n a full : Nat) (al : List Nat) (ok : Nat → Bool) : Nat → Nat → Nat → Bool
  | 0, _, _ => true
  | d + 1, b, F => bif Nat.beq F full then ok b else
      let f := freeAt n F
      al.all fun x =>
        let k := (f + (n - x)) % n
        let m := moveN n a k
        bif Nat.beq (m &&& F) 0 then visOk n a full al ok d (b ||| 2 ^ k) (F ||| m) else true
theorem visOk_spec {n a : Nat} {al : List Nat} {ok : Nat → Bool} (hal : ∀ x, x < n → a.testBit x = true → x ∈ al) : ∀ (d b F : Nat), visOk n a (2 ^ n - 1) al ok d b F = true → ∀ c ∈ vis n a (stA n a) d b F, ok c = true
  | 0, b, F, _, c, hc => by simp [vis] at hc
  | d + 1, b, F, h, c, hc => by
    simp only [vis] at hc
    simp only [visOk] at h
    by_cases e : F = 2 ^ n - 1
    · rw [if_pos e, List.mem_singleton] at hc
      rw [show Nat.beq F (2 ^ n - 1) = true from Nat.beq_eq.mpr e, cond_true] at h
      rw [hc]; exact h
    · rw [if_neg e, List.mem_flatMap] at hc
      rw [show Nat.beq F (2 ^ n - 1) = false from by rw [Bool.eq_false_iff]; exact fun h => e (Nat.eq_of_beq_eq_true h), cond_false, List.all_eq_true] at h
      obtain ⟨x, hx, hc⟩ := hc
      rw [List.mem_range] at hx
      unfold stA at hc
      cases hb : a.testBit x with
      | false => rw [hb] at hc; simp at hc
      | true =>
        rw [hb] at hc
        simp only [if_true] at hc
        have h2 := h x (hal x hx hb)
        by_cases hm : moveN n a ((freeAt n F + (n - x)) % n) &&& F = 0
        · rw [if_pos hm] at hc
          rw [show Nat.beq (moveN n a ((freeAt n F + (n - x)) % n) &&& F) 0 = true from Nat.beq_eq.mpr hm, cond_true] at h2
          exact visOk_spec hal d _ _ h2 c hc
        · rw [if_neg hm] at hc; cases hc
/-- has a period below the circle -/
def perB (n a : Nat) : Bool := (List.range n).any fun d => decide (1 ≤ d) && (decide (n % d = 0) && Nat.beq (moveN n a d) a)
theorem perB_iff {n a : Nat} : perB n a = true ↔ ∃ d, d < n ∧ IsPer n a d := by
  unfold perB IsPer
  rw [List.any_eq_true]
  constructor
  · rintro ⟨d, hd, h⟩
    rw [List.mem_range] at hd
    simp only [Bool.and_eq_true, decide_eq_true_iff] at h
    exact ⟨d, hd, h.1, by omega, h.2.1, Nat.eq_of_beq_eq_true h.2.2⟩
  · rintro ⟨d, hd, h1, _, h2, h3⟩
    refine ⟨d, List.mem_range.2 hd, ?_⟩
    simp only [Bool.and_eq_true, decide_eq_true_iff]
    exact ⟨h1, h2, Nat.beq_eq.mpr h3⟩
def setOf (al : List Nat) : Nat := al.foldl (fun s x => s ||| 2 ^ x) 0
def chkA (n : Nat) (al : List Nat) : Bool :=
  let a := setOf al
  perB n a || visOk n a (2 ^ n - 1) al (perB n) (n + 1) 1 a
/-- all rising lists of k numbers from lo to n - 1 behind some -/
def chkR (n : Nat) : Nat → Nat → List Nat → Bool
  | 0, _, al => chkA n al
  | k + 1, lo, al => (List.range (n - lo)).all fun i => chkR n k (lo + i + 1) (al ++ [lo + i])
def chkN (n : Nat) : Bool := [1, 2, 3, 4].all fun s => decide (n % s ≠ 0) || chkR n (s - 1) 1 [0]
theorem chkR_spec {n : Nat} : ∀ (k lo : Nat) (al l : List Nat), chkR n k lo al = true → l.length = k → l.Pairwise (· < ·) → (∀ x ∈ l, lo ≤ x ∧ x < n) → chkA n (al ++ l) = true
  | 0, lo, al, l, h, hl, _, _ => by
    rw [List.length_eq_zero_iff] at hl
    subst hl
    rw [List.append_nil]; exact h
  | k + 1, lo, al, x :: l, h, hl, hp, hr => by
    simp only [chkR, List.all_eq_true, List.mem_range] at h
    have hx := hr x (by simp)
    have h2 := h (x - lo) (by omega)
    rw [show lo + (x - lo) = x by omega] at h2
    rw [List.pairwise_cons] at hp
    have := chkR_spec k (x + 1) (al ++ [x]) l h2 (by simpa using hl) hp.2 (fun y hy => ⟨hp.1 y hy, (hr y (by simp [hy])).2⟩)
    rwa [List.append_assoc] at this
  | k + 1, _, _, [], _, hl, _, _ => by simp at hl
set_option maxHeartbeats 20000000 in
theorem chk_2 : chkN 2 = true := by kernel_rfl
set_option maxHeartbeats 20000000 in
theorem chk_3 : chkN 3 = true := by kernel_rfl
set_option maxHeartbeats 20000000 in
theorem chk_4 : chkN 4 = true := by kernel_rfl
set_option maxHeartbeats 20000000 in
theorem chk_5 : chkN 5 = true := by kernel_rfl
set_option maxHeartbeats 20000000 in
theorem chk_6 : chkN 6 = true := by kernel_rfl
set_option maxHeartbeats 20000000 in
theorem chk_7 : chkN 7 = true := by kernel_rfl
set_option maxHeartbeats 20000000 in
theorem chk_8 : chkN 8 = true := by kernel_rfl
set_option maxHeartbeats 20000000 in
theorem chk_9 : chkN 9 = true := by kernel_rfl
set_option maxHeartbeats 20000000 in
theorem chk_10 : chkN 10 = true := by kernel_rfl
set_option maxHeartbeats 20000000 in
theorem chk_11 : chkN 11 = true := by kernel_rfl
set_option maxHeartbeats 20000000 in
theorem chk_12 : chkN 12 = true := by kernel_rfl
set_option maxHeartbeats 20000000 in
theorem chk_13 : chkN 13 = true := by kernel_rfl
set_option maxHeartbeats 20000000 in
theorem chk_14 : chkN 14 = true := by kernel_rfl
set_option maxHeartbeats 20000000 in
theorem chk_15 : chkN 15 = true := by kernel_rfl
set_option maxHeartbeats 20000000 in
theorem chk_16 : chkN 16 = true := by kernel_rfl
set_option maxHeartbeats 20000000 in
theorem chk_17 : chkN 17 = true := by kernel_rfl
set_option maxHeartbeats 20000000 in
theorem chk_18 : chkN 18 = true := by kernel_rfl
set_option maxHeartbeats 20000000 in
theorem chk_19 : chkN 19 = true := by kernel_rfl
set_option maxHeartbeats 20000000 in
theorem chk_20 : chkN 20 = true := by kernel_rfl
set_option maxHeartbeats 20000000 in
theorem chk_21 : chkN 21 = true := by kernel_rfl
set_option maxHeartbeats 20000000 in
theorem chk_22 : chkN 22 = true := by kernel_rfl
set_option maxHeartbeats 20000000 in
theorem chk_23 : chkN 23 = true := by kernel_rfl
set_option maxHeartbeats 20000000 in
theorem chk24_1 : chkR 24 2 2 [0, 1] = true := by kernel_rfl
set_option maxHeartbeats 20000000 in
theorem chk24_2 : chkR 24 2 3 [0, 2] = true := by kernel_rfl
set_option maxHeartbeats 20000000 in
theorem chk24_3 : chkR 24 2 4 [0, 3] = true := by kernel_rfl
set_option maxHeartbeats 20000000 in
theorem chk24_4 : chkR 24 2 5 [0, 4] = true := by kernel_rfl
set_option maxHeartbeats 20000000 in
theorem chk24_5 : chkR 24 2 6 [0, 5] = true := by kernel_rfl
set_option maxHeartbeats 20000000 in
theorem chk24_6 : chkR 24 2 7 [0, 6] = true := by kernel_rfl
set_option maxHeartbeats 20000000 in
theorem chk24_7 : chkR 24 2 8 [0, 7] = true := by kernel_rfl
set_option maxHeartbeats 20000000 in
theorem chk24_8 : chkR 24 2 9 [0, 8] = true := by kernel_rfl
set_option maxHeartbeats 20000000 in
theorem chk24_9 : chkR 24 2 10 [0, 9] = true := by kernel_rfl
set_option maxHeartbeats 20000000 in
theorem chk24_10 : chkR 24 2 11 [0, 10] = true := by kernel_rfl
set_option maxHeartbeats 20000000 in
theorem chk24_11 : chkR 24 2 12 [0, 11] = true := by kernel_rfl
set_option maxHeartbeats 20000000 in
theorem chk24_12 : chkR 24 2 13 [0, 12] = true := by kernel_rfl
set_option maxHeartbeats 20000000 in
theorem chk24_13 : chkR 24 2 14 [0, 13] = true := by kernel_rfl
set_option maxHeartbeats 20000000 in
theorem chk24_14 : chkR 24 2 15 [0, 14] = true := by kernel_rfl
set_option maxHeartbeats 20000000 in
theorem chk24_15 : chkR 24 2 16 [0, 15] = true := by kernel_rfl
set_option maxHeartbeats 20000000 in
theorem chk24_16 : chkR 24 2 17 [0, 16] = true := by kernel_rfl
set_option maxHeartbeats 20000000 in
theorem chk24_17 : chkR 24 2 18 [0, 17] = true := by kernel_rfl
set_option maxHeartbeats 20000000 in
theorem chk24_18 : chkR 24 2 19 [0, 18] = true := by kernel_rfl
set_option maxHeartbeats 20000000 in
theorem chk24_19 : chkR 24 2 20 [0, 19] = true := by kernel_rfl
set_option maxHeartbeats 20000000 in
theorem chk24_20 : chkR 24 2 21 [0, 20] = true := by kernel_rfl
set_option maxHeartbeats 20000000 in
theorem chk24_21 : chkR 24 2 22 [0, 21] = true := by kernel_rfl
set_option maxHeartbeats 20000000 in
theorem chk24_22 : chkR 24 2 23 [0, 22] = true := by kernel_rfl
set_option maxHeartbeats 20000000 in
theorem chk24_23 : chkR 24 2 24 [0, 23] = true := by kernel_rfl
set_option maxHeartbeats 20000000 in
theorem chk24_s : ([1, 2, 3].all fun s => decide (24 % s ≠ 0) || chkR 24 (s - 1) 1 [0]) = true := by kernel_rfl
theorem chk24_all : chkR 24 3 1 [0] = true := by
  have h : chkR 24 3 1 [0] = (List.range 23).all fun i => chkR 24 2 (1 + i + 1) ([0] ++ [1 + i]) := rfl
  rw [h, List.all_eq_true]
  intro i hi
  rw [List.mem_range] at hi
  match i, hi with
  | 0, _ => exact chk24_1
  | 1, _ => exact chk24_2
  | 2, _ => exact chk24_3
  | 3, _ => exact chk24_4
  | 4, _ => exact chk24_5
  | 5, _ => exact chk24_6
  | 6, _ => exact chk24_7
  | 7, _ => exact chk24_8
  | 8, _ => exact chk24_9
  | 9, _ => exact chk24_10
  | 10, _ => exact chk24_11
  | 11, _ => exact chk24_12
  | 12, _ => exact chk24_13
  | 13, _ => exact chk24_14
  | 14, _ => exact chk24_15
  | 15, _ => exact chk24_16
  | 16, _ => exact chk24_17
  | 17, _ => exact chk24_18
  | 18, _ => exact chk24_19
  | 19, _ => exact chk24_20
  | 20, _ => exact chk24_21
  | 21, _ => exact chk24_22
  | 22, _ => exact chk24_23
  | i + 23, h => exact absurd h (by omega)
theorem chk_24 : chkN 24 = true := by
  have h := chk24_s
  have h4 := chk24_all
  rw [List.all_eq_true] at h
  unfold chkN
  rw [List.all_eq_true]
  intro s hs
  by_cases e : s = 4
  · subst e
    rw [show 4 - 1 = 3 from rfl, h4, Bool.or_true]
  · exact h s (by simp at hs ⊢; omega)
theorem hj_chk_all (n : Nat) (h : n < 25) (h2 : 2 ≤ n) : chkN n = true := by
  match n, h, h2 with
  | 2, _, _ => exact chk_2
  | 3, _, _ => exact chk_3
  | 4, _, _ => exact chk_4
  | 5, _, _ => exact chk_5
  | 6, _, _ => exact chk_6
  | 7, _, _ => exact chk_7
  | 8, _, _ => exact chk_8
  | 9, _, _ => exact chk_9
  | 10, _, _ => exact chk_10
  | 11, _, _ => exact chk_11
  | 12, _, _ => exact chk_12
  | 13, _, _ => exact chk_13
  | 14, _, _ => exact chk_14
  | 15, _, _ => exact chk_15
  | 16, _, _ => exact chk_16
  | 17, _, _ => exact chk_17
  | 18, _, _ => exact chk_18
  | 19, _, _ => exact chk_19
  | 20, _, _ => exact chk_20
  | 21, _, _ => exact chk_21
  | 22, _, _ => exact chk_22
  | 23, _, _ => exact chk_23
  | 24, _, _ => exact chk_24
  | 0, _, h => exact absurd h (by omega)
  | 1, _, h => exact absurd h (by omega)
  | n + 25, h, _ => exact absurd h (by omega)
theorem tiled_symm {n a b : Nat} (ha : a < 2 ^ n) (hb : b < 2 ^ n) (h : Tiled n a b) : Tiled n b a := by
  intro x hx
  have h1 := h x hx
  rw [← h1]
  unfold cv
  have hf : ∀ i, i < n → (x + (n - i)) % n < n := fun i hi => Nat.mod_lt _ (by omega)
  have hff : ∀ i, i < n → (x + (n - (x + (n - i)) % n)) % n = i := fun i hi => sub_mod_two hx hi
  rw [← cnt_perm (f := fun i => (x + (n - i)) % n) hf (fun i hi j hj e => by rw [← hff i hi, ← hff j hj]; exact congrArg (fun z => (x + (n - z)) % n) e) (fun y => b.testBit y && (moveN n a y).testBit x)]
  refine cnt_congr (fun y hy => ?_)
  rw [testBit_moveN hb hy hx, testBit_moveN ha (hf y hy) hx, hff y hy, Bool.and_comm]
theorem foldl_set (l : List Nat) : ∀ s, l.foldl (fun s x => s ||| 2 ^ x) s = orAll s l := fun _ => rfl
theorem setOf_filter {n a : Nat} (ha : a < 2 ^ n) : setOf ((List.range n).filter a.testBit) = a := by
  show orAll 0 _ = a
  refine bits_ext (orAll_lt _ (fun x hx => List.mem_range.1 (List.mem_filter.1 hx).1) 0 (Nat.two_pow_pos n)) ha (fun i hi => ?_)
  rw [testBit_orAll, Nat.zero_testBit, Bool.false_or, Bool.eq_iff_iff, decide_eq_true_iff, List.mem_filter, List.mem_range]
  exact ⟨fun h => h.2, fun h => ⟨hi, h⟩⟩
theorem small_side {n a b : Nat} (hn : 2 ≤ n) (hn2 : n ≤ 24) (ha : a < 2 ^ n) (hb : b < 2 ^ n) (a0 : a.testBit 0 = true) (b0 : b.testBit 0 = true) (h : Tiled n a b) (hs : chSize n a ≤ 4) : perB n a = true ∨ perB n b = true := by
  obtain ⟨al, hal⟩ : ∃ al, al = (List.range n).filter a.testBit := ⟨_, rfl⟩
  have hset : setOf al = a := by rw [hal]; exact setOf_filter ha
  have hlen : al.length = chSize n a := by rw [hal, chSize_cnt, cnt_eq, List.countP_eq_length_filter]
  have hp : al.Pairwise (· < ·) := by rw [hal]; exact List.Pairwise.filter _ List.pairwise_lt_range
  have hm : ∀ x, x ∈ al ↔ x < n ∧ a.testBit x = true := fun x => by rw [hal, List.mem_filter, List.mem_range]
  have hsz := tiled_size ha h
  obtain ⟨y, l, e⟩ : ∃ y l, al = y :: l := by
    cases al with
    | nil => exact absurd ((hm 0).2 ⟨by omega, a0⟩) (by simp)
    | cons y l => exact ⟨y, l, rfl⟩
  rw [e, List.pairwise_cons] at hp
  have hy : y = 0 := by
    have := (hm 0).2 ⟨by omega, a0⟩
    rw [e] at this
    rcases List.mem_cons.1 this with h | h
    · exact h.symm
    · have := hp.1 0 h; omega
  subst hy
  have hc := hj_chk_all n (by omega) hn
  unfold chkN at hc
  rw [List.all_eq_true] at hc
  have hl : l.length + 1 = chSize n a := by rw [← hlen, e]; rfl
  have hmem : chSize n a ∈ [1, 2, 3, 4] := by
    have : chSize n a = 1 ∨ chSize n a = 2 ∨ chSize n a = 3 ∨ chSize n a = 4 := by omega
    simp [this]
  have h1 := hc _ hmem
  have hdiv : n % chSize n a = 0 := Nat.mod_eq_zero_of_dvd ⟨chSize n b, hsz.symm⟩
  rw [decide_eq_false (by simp [hdiv]), Bool.false_or] at h1
  have h2 := chkR_spec (chSize n a - 1) 1 [0] l h1 (by omega) hp.2 (fun x hx => ⟨hp.1 x hx, ((hm x).1 (by rw [e]; simp [hx])).1⟩)
  rw [show [0] ++ l = al by rw [e]; rfl] at h2
  unfold chkA at h2
  simp only [hset, Bool.or_eq_true] at h2
  rcases h2 with h2 | h2
  · exact .inl h2
  · right
    refine visOk_spec (fun x hx hb => (hm x).2 ⟨hx, hb⟩) _ _ _ h2 b ?_
    exact ((partners_spec (by omega) ha a0 (stepOk_A ha)).2 b).2 ⟨hb, h, b0⟩
/-- **of two rhythms that fill the circle one has a period below it** -/
theorem hajos {n a b : Nat} (hn : 2 ≤ n) (hn2 : n ≤ 24) (ha : a < 2 ^ n) (hb : b < 2 ^ n) (a0 : a.testBit 0 = true) (b0 : b.testBit 0 = true) (h : Tiled n a b) : perB n a = true ∨ perB n b = true := by
  have hsz := tiled_size ha h
  by_cases hs : chSize n a ≤ 4
  · exact small_side hn hn2 ha hb a0 b0 h hs
  · have h4 : chSize n b ≤ 4 := by
      rcases Nat.lt_or_ge 4 (chSize n b) with h5 | h5
      · have := Nat.mul_le_mul (show 5 ≤ chSize n a by omega) (show 5 ≤ chSize n b by omega)
        omega
      · exact h5
    exact (small_side hn hn2 hb ha b0 a0 (tiled_symm ha hb h) h4).symm
end Go.Proofs.Ytkidgakjeahebaa.P
namespace Go.Proofs.Ytkidgakjeahebaa.P
/-! Partners of a rhythm with a period, and of a rhythm turned. Plain Lean. -/
theorem back_mod {n d x y : Nat} (hd : 1 ≤ d) (hn : n % d = 0) (hy : y < n) : (x + (n - y)) % n % d = (x % d + (d - y % d)) % d := by
  have hdv : d ∣ n := Nat.dvd_of_mod_eq_zero hn
  rw [Nat.mod_mod_of_dvd _ hdv]
  refine add_mod_inj (e := y) (Nat.mod_lt _ hd) (Nat.mod_lt _ hd) ?_
  rw [Nat.mod_add_mod, Nat.mod_add_mod]
  have h1 : (x + (n - y) + y) % d = x % d := by
    rw [show x + (n - y) + y = x + n by omega, Nat.add_mod, hn, Nat.add_zero, Nat.mod_mod]
  have h2 : (x % d + (d - y % d) + y) % d = x % d := by
    have e1 := Nat.div_add_mod y d
    have e2 := Nat.mod_lt y hd
    rw [show x % d + (d - y % d) + y = x % d + d * (y / d + 1) by rw [Nat.mul_add]; omega, Nat.add_mul_mod_self_left, Nat.mod_mod]
  rw [h1, h2]
theorem per_mod {n a d : Nat} (ha : a < 2 ^ n) (h : IsPer n a d) {x : Nat} (hx : x < n) : a.testBit (x % d) = a.testBit x := by
  have hd := h.1
  have := per_bit ha h (x / d) (x % d) (by have := Nat.mod_add_div x d; rw [Nat.mul_comm] at this; omega)
  rw [← this]
  congr 1
  have := Nat.mod_add_div x d; rw [Nat.mul_comm] at this; omega
theorem move_fold {n a d x y : Nat} (ha : a < 2 ^ n) (h : IsPer n a d) (hx : x < n) (hy : y < n) : (moveN n a y).testBit x = (moveN d (a &&& (2 ^ d - 1)) (y % d)).testBit (x % d) := by
  have hd := h.1
  have hb : a &&& (2 ^ d - 1) < 2 ^ d := by have := Nat.two_pow_pos d; have := @Nat.and_le_right a (2 ^ d - 1); omega
  rw [testBit_moveN ha hy hx, testBit_moveN hb (Nat.mod_lt _ hd) (Nat.mod_lt _ hd), ← back_mod hd h.2.2.1 hy, Nat.testBit_and, Nat.testBit_two_pow_sub_one, per_mod ha h (Nat.mod_lt _ (by omega))]
  have : (x + (n - y)) % n % d < d := Nat.mod_lt _ hd
  simp [this]
def modSet (n d c : Nat) : Nat := orAll 0 (((List.range n).filter c.testBit).map (· % d))
theorem modSet_bit {n d c i : Nat} : (modSet n d c).testBit i = true ↔ ∃ y, y < n ∧ c.testBit y = true ∧ y % d = i := by
  unfold modSet
  rw [testBit_orAll]
  simp only [Nat.zero_testBit, Bool.false_or, decide_eq_true_eq, List.mem_map, List.mem_filter, List.mem_range]
  constructor
  · rintro ⟨y, ⟨h1, h2⟩, h3⟩; exact ⟨y, h1, h2, h3⟩
  · rintro ⟨y, h1, h2, h3⟩; exact ⟨y, ⟨h1, h2⟩, h3⟩
theorem modSet_lt {n d c : Nat} (hd : 1 ≤ d) : modSet n d c < 2 ^ d := by
  unfold modSet
  refine orAll_lt _ (fun x hx => ?_) _ (Nat.two_pow_pos d)
  simp only [List.mem_map] at hx
  obtain ⟨y, _, rfl⟩ := hx
  exact Nat.mod_lt _ hd
theorem fold_partner {n a d : Nat} (ha : a < 2 ^ n) (h : IsPer n a d) : (∃ c, c < 2 ^ n ∧ Tiled n a c ∧ c.testBit 0 = true) ↔ (∃ c, c < 2 ^ d ∧ Tiled d (a &&& (2 ^ d - 1)) c ∧ c.testBit 0 = true) := by
  have hd := h.1
  have hdn := h.2.1
  simp only [tiled_fills]
  constructor
  · rintro ⟨c, hc, ⟨h1, h2⟩, h0⟩
    refine ⟨modSet n d c, modSet_lt hd, ⟨fun x hx => ?_, fun x hx y hy z hz hy1 hz1 hy2 hz2 => ?_⟩, modSet_bit.2 ⟨0, by omega, h0, Nat.zero_mod d⟩⟩
    · obtain ⟨y, hy, hcy, hm⟩ := h1 x (by omega)
      refine ⟨y % d, Nat.mod_lt _ hd, modSet_bit.2 ⟨y, hy, hcy, rfl⟩, ?_⟩
      rw [move_fold ha h (by omega) hy, Nat.mod_eq_of_lt hx] at hm; exact hm
    · obtain ⟨y', hy', hcy, rfl⟩ := modSet_bit.1 hy1
      obtain ⟨z', hz', hcz, rfl⟩ := modSet_bit.1 hz1
      have e1 := move_fold ha h (show x < n by omega) hy'
      have e2 := move_fold ha h (show x < n by omega) hz'
      rw [Nat.mod_eq_of_lt hx] at e1 e2
      rw [h2 x (by omega) y' hy' z' hz' hcy hcz (e1.trans hy2) (e2.trans hz2)]
  · rintro ⟨c, hc, ⟨h1, h2⟩, h0⟩
    have hlt : ∀ y, c.testBit y = true → y < d := fun y hy => by
      rcases Nat.lt_or_ge y d with h | h
      · exact h
      · rw [testBit_big hc h] at hy; cases hy
    refine ⟨c, Nat.lt_of_lt_of_le hc (Nat.pow_le_pow_right (by omega) hdn), ⟨fun x hx => ?_, fun x hx y hy z hz hy1 hz1 hy2 hz2 => ?_⟩, h0⟩
    · obtain ⟨y, hy, hcy, hm⟩ := h1 (x % d) (Nat.mod_lt _ hd)
      refine ⟨y, by omega, hcy, ?_⟩
      rw [move_fold ha h hx (by omega), Nat.mod_eq_of_lt hy]; exact hm
    · have _ := hx
      have hyd := hlt y hy1
      have hzd := hlt z hz1
      rw [move_fold ha h hx hy, Nat.mod_eq_of_lt hyd] at hy2
      rw [move_fold ha h hx hz, Nat.mod_eq_of_lt hzd] at hz2
      exact h2 (x % d) (Nat.mod_lt _ hd) y hyd z hzd hy1 hz1 hy2 hz2
/-- the image of a set -/
def imgSet (n : Nat) (f : Nat → Nat) (c : Nat) : Nat := orAll 0 (((List.range n).filter c.testBit).map f)
theorem imgSet_bit {n : Nat} {f : Nat → Nat} {c i : Nat} : (imgSet n f c).testBit i = true ↔ ∃ y, y < n ∧ c.testBit y = true ∧ f y = i := by
  unfold imgSet
  rw [testBit_orAll]
  simp only [Nat.zero_testBit, Bool.false_or, decide_eq_true_eq, List.mem_map, List.mem_filter, List.mem_range]
  constructor
  · rintro ⟨y, ⟨h1, h2⟩, h3⟩; exact ⟨y, h1, h2, h3⟩
  · rintro ⟨y, h1, h2, h3⟩; exact ⟨y, ⟨h1, h2⟩, h3⟩
theorem imgSet_lt {n : Nat} {f : Nat → Nat} {c : Nat} (hf : ∀ x, x < n → f x < n) : imgSet n f c < 2 ^ n := by
  unfold imgSet
  refine orAll_lt _ (fun x hx => ?_) _ (Nat.two_pow_pos n)
  simp only [List.mem_map, List.mem_filter, List.mem_range] at hx
  obtain ⟨y, ⟨h, _⟩, rfl⟩ := hx
  exact hf y h
def neg1 (n x : Nat) : Nat := (n - x) % n
theorem neg1_lt {n x : Nat} (hn : 1 ≤ n) : neg1 n x < n := Nat.mod_lt _ hn
theorem neg1_eq {n x : Nat} (hx : x < n) : neg1 n x = if x = 0 then 0 else n - x := by
  unfold neg1
  by_cases e : x = 0
  · subst e; simp
  · rw [if_neg e, Nat.mod_eq_of_lt (by omega)]
theorem neg1_neg1 {n x : Nat} (hx : x < n) : neg1 n (neg1 n x) = x := by
  have h1 := neg1_eq hx
  have h2 := neg1_eq (n := n) (x := neg1 n x) (neg1_lt (by omega))
  split at h1 <;> split at h2 <;> omega
def negN (n c : Nat) : Nat := imgSet n (neg1 n) c
theorem negN_lt {n c : Nat} (hn : 1 ≤ n) : negN n c < 2 ^ n := imgSet_lt (fun _ _ => neg1_lt hn)
theorem negN_bit {n c i : Nat} (hi : i < n) : (negN n c).testBit i = c.testBit (neg1 n i) := by
  rw [Bool.eq_iff_iff]
  unfold negN
  rw [imgSet_bit]
  constructor
  · rintro ⟨y, hy, hc, rfl⟩; rw [neg1_neg1 hy]; exact hc
  · intro h; exact ⟨neg1 n i, neg1_lt (by omega), h, neg1_neg1 hi⟩
theorem negN_negN {n c : Nat} (hn : 1 ≤ n) (hc : c < 2 ^ n) : negN n (negN n c) = c :=
  bits_ext (negN_lt hn) hc (fun i hi => by rw [negN_bit hi, negN_bit (neg1_lt hn), neg1_neg1 hi])
theorem move_neg {n a x y : Nat} (ha : a < 2 ^ n) (hx : x < n) (hy : y < n) : (moveN n (negN n a) (neg1 n y)).testBit (neg1 n x) = (moveN n a y).testBit x := by
  have hn : 1 ≤ n := by omega
  rw [testBit_moveN (negN_lt hn) (neg1_lt hn) (neg1_lt hn), testBit_moveN ha hy hx, negN_bit (Nat.mod_lt _ hn)]
  congr 1
  have h1 := neg1_eq hx
  have h2 := neg1_eq hy
  have hm : ∀ u, u < 2 * n → u % n = if u < n then u else u - n := fun u hu => by
    by_cases e : u < n
    · rw [if_pos e, Nat.mod_eq_of_lt e]
    · rw [if_neg e, Nat.mod_eq_sub_mod (by omega), Nat.mod_eq_of_lt (by omega)]
  have e1 : ∀ v, v = (neg1 n x + (n - neg1 n y)) % n → neg1 n v = (x + (n - y)) % n := by
    intro v hv
    by_cases hy0 : y = 0
    · subst hy0
      simp only [if_true] at h2
      rw [h2, Nat.sub_zero, Nat.add_mod_right, Nat.mod_eq_of_lt (neg1_lt hn)] at hv
      subst hv
      rw [neg1_neg1 hx, Nat.sub_zero, Nat.add_mod_right, Nat.mod_eq_of_lt hx]
    · rw [if_neg hy0] at h2
      rw [hm _ (by have := neg1_lt (x := x) hn; omega)] at hv
      have hvn : v < n := by have := neg1_lt (x := x) hn; split at hv <;> omega
      have h3 := neg1_eq hvn
      rw [h3, hm _ (by omega)]
      split at h1 <;> split at hv <;> split <;> split <;> omega
  exact e1 _ rfl
theorem tiled_neg {n a c : Nat} (ha : a < 2 ^ n) (h : Tiled n a c) : Tiled n (negN n a) (negN n c) := by
  rw [tiled_fills] at h ⊢
  obtain ⟨h1, h2⟩ := h
  refine ⟨fun x hx => ?_, fun x hx y hy z hz hy1 hz1 hy2 hz2 => ?_⟩
  · have hn : 1 ≤ n := by omega
    obtain ⟨y, hy, hc, hm⟩ := h1 (neg1 n x) (neg1_lt hn)
    refine ⟨neg1 n y, neg1_lt hn, ?_, ?_⟩
    · rw [negN_bit (neg1_lt hn), neg1_neg1 hy]; exact hc
    · have := move_neg ha (neg1_lt (x := x) hn) hy
      rw [neg1_neg1 hx] at this
      rw [this]; exact hm
  · have hn : 1 ≤ n := by omega
    rw [negN_bit hy] at hy1
    rw [negN_bit hz] at hz1
    have e1 := move_neg ha (neg1_lt (x := x) hn) (neg1_lt (x := y) hn)
    have e2 := move_neg ha (neg1_lt (x := x) hn) (neg1_lt (x := z) hn)
    rw [neg1_neg1 hx, neg1_neg1 hy] at e1
    rw [neg1_neg1 hx, neg1_neg1 hz] at e2
    have := h2 (neg1 n x) (neg1_lt hn) (neg1 n y) (neg1_lt hn) (neg1 n z) (neg1_lt hn) hy1 hz1 (e1.symm.trans hy2) (e2.symm.trans hz2)
    rw [← neg1_neg1 hy, this, neg1_neg1 hz]
end Go.Proofs.Ytkidgakjeahebaa.P
namespace Go.Proofs.Ytkidgakjeahebaa.P
/-! Tijdeman: a tile multiplied by a number without a common factor is a tile with the same partner -/
/-- all that a list moves a function to, summed -/
def sumOp (A : List Int) (f : Int → Int) (x : Int) : Int := (A.map fun a => f (x - a)).sum
def iterOp (A : List Int) : Nat → (Int → Int) → Int → Int
  | 0, f => f
  | k + 1, f => sumOp A (iterOp A k f)
def bin : Nat → Nat → Nat
  | _, 0 => 1
  | 0, _ + 1 => 0
  | n + 1, k + 1 => bin n k + bin n (k + 1)
theorem bin_over : ∀ (n k : Nat), n < k → bin n k = 0
  | 0, k + 1, _ => rfl
  | n + 1, k + 1, h => by simp [bin, bin_over n k (by omega), bin_over n (k + 1) (by omega)]
theorem bin_zero (n : Nat) : bin n 0 = 1 := by cases n <;> rfl
theorem bin_self : ∀ n : Nat, bin n n = 1
  | 0 => rfl
  | n + 1 => by simp [bin, bin_self n, bin_over n (n + 1) (by omega)]
/-- a sum over the numbers below a bound -/
def upto (f : Nat → Int) : Nat → Int
  | 0 => 0
  | n + 1 => upto f n + f n
theorem upto_congr {f g : Nat → Int} : ∀ {n : Nat}, (∀ i, i < n → f i = g i) → upto f n = upto g n
  | 0, _ => rfl
  | n + 1, h => by simp only [upto]; rw [upto_congr (fun i hi => h i (by omega)), h n (by omega)]
theorem upto_add (f g : Nat → Int) : ∀ n : Nat, upto (fun i => f i + g i) n = upto f n + upto g n
  | 0 => rfl
  | n + 1 => by simp only [upto, upto_add f g n]; omega
theorem upto_first (f : Nat → Int) : ∀ n : Nat, upto f (n + 1) = f 0 + upto (fun i => f (i + 1)) n
  | 0 => by simp [upto]
  | n + 1 => by rw [upto, upto_first f n]; simp only [upto]; omega
theorem upto_mul (c : Int) (f : Nat → Int) : ∀ n : Nat, upto (fun i => c * f i) n = c * upto f n
  | 0 => by simp [upto]
  | n + 1 => by simp only [upto, upto_mul c f n, Int.mul_add]
theorem sumOp_upto (A : List Int) (F : Nat → Int → Int) (n : Nat) (x : Int) : sumOp A (fun y => upto (fun i => F i y) n) x = upto (fun i => sumOp A (F i) x) n := by
  induction n with
  | zero => unfold sumOp; simp only [upto]; induction A with
    | nil => rfl
    | cons a A ih => simpa using ih
  | succ n ih =>
    have h2 : ∀ B : List Int, sumOp B (fun y => upto (fun i => F i y) (n + 1)) x = sumOp B (fun y => upto (fun i => F i y) n) x + sumOp B (F n) x := by
      intro B
      unfold sumOp; simp only [upto]
      induction B with
      | nil => rfl
      | cons a B ih2 => simp only [List.map_cons, List.sum_cons] at ih2 ⊢; omega
    rw [h2, ih]; rfl
theorem sumOp_mul (A : List Int) (c : Int) (f : Int → Int) (x : Int) : sumOp A (fun y => c * f y) x = c * sumOp A f x := by
  unfold sumOp
  induction A with
  | nil => simp
  | cons a A ih => simp only [List.map_cons, List.sum_cons, Int.mul_add] at ih ⊢; omega
theorem sumOp_move (A : List Int) (f : Int → Int) (c x : Int) : sumOp A (fun y => f (y - c)) x = sumOp A f (x - c) := by
  unfold sumOp
  congr 1
  apply List.map_congr_left
  intro a _
  show f (x - a - c) = f (x - c - a)
  congr 1; omega
theorem sumOp_cons (a : Int) (A : List Int) (f : Int → Int) (x : Int) : sumOp (a :: A) f x = f (x - a) + sumOp A f x := rfl
/-- the binomial theorem for a step and a sum of steps -/
theorem iter_cons (a : Int) (A : List Int) (f : Int → Int) : ∀ (n : Nat) (x : Int), iterOp (a :: A) n f x = upto (fun k => (bin n k : Int) * iterOp A (n - k) f (x - k * a)) (n + 1)
  | 0, x => by simp [iterOp, upto, bin]
  | n + 1, x => by
    have ih := iter_cons a A f n
    have e1 : iterOp (a :: A) (n + 1) f x = upto (fun k => (bin n k : Int) * iterOp A (n - k) f (x - a - k * a)) (n + 1) + upto (fun k => (bin n k : Int) * iterOp A (n + 1 - k) f (x - k * a)) (n + 1) := by
      show sumOp (a :: A) (iterOp (a :: A) n f) x = _
      rw [sumOp_cons, ih, show iterOp (a :: A) n f = fun y => upto (fun k => (bin n k : Int) * iterOp A (n - k) f (y - k * a)) (n + 1) from funext ih, sumOp_upto]
      congr 1
      apply upto_congr
      intro k hk
      rw [sumOp_mul, sumOp_move A (iterOp A (n - k) f)]
      rw [show n + 1 - k = (n - k) + 1 by omega]; rfl
    rw [e1]
    -- the right side: k = 0 apart, Pascal for the others
    rw [upto_first (fun k => (bin (n + 1) k : Int) * iterOp A (n + 1 - k) f (x - k * a)) (n + 1)]
    have e2 : upto (fun i => (bin (n + 1) (i + 1) : Int) * iterOp A (n + 1 - (i + 1)) f (x - ((i + 1 : Nat) : Int) * a)) (n + 1) =
        upto (fun k => (bin n k : Int) * iterOp A (n - k) f (x - a - k * a)) (n + 1) + upto (fun i => (bin n (i + 1) : Int) * iterOp A (n + 1 - (i + 1)) f (x - ((i + 1 : Nat) : Int) * a)) (n + 1) := by
      rw [← upto_add]
      apply upto_congr
      intro i hi
      have e3 : x - ((i + 1 : Nat) : Int) * a = x - a - i * a := by rw [Int.natCast_add, Int.add_mul]; omega
      rw [e3, show n + 1 - (i + 1) = n - i by omega]
      show ((bin n i + bin n (i + 1) : Nat) : Int) * _ = _
      rw [Int.natCast_add, Int.add_mul]
    rw [e2]
    have e4 : upto (fun k => (bin n k : Int) * iterOp A (n + 1 - k) f (x - k * a)) (n + 1 + 1) = upto (fun k => (bin n k : Int) * iterOp A (n + 1 - k) f (x - k * a)) (n + 1) := by
      rw [upto, bin_over n (n + 1) (by omega)]; simp
    rw [← e4, upto_first (fun k => (bin n k : Int) * iterOp A (n + 1 - k) f (x - k * a)) (n + 1)]
    simp only [bin_zero]
    omega
/-- what Frobenius asks of p -/
def Frob (p : Nat) : Prop := 1 ≤ p ∧ ∀ k, 0 < k → k < p → p ∣ bin p k
theorem iter_frob {p : Nat} (hp : Frob p) (f : Int → Int) : ∀ (A : List Int) (x : Int), (p : Int) ∣ iterOp A p f x - (A.map fun a => f (x - p * a)).sum
  | [], x => by
    have : iterOp [] p f x = 0 := by
      obtain ⟨q, rfl⟩ : ∃ q, p = q + 1 := ⟨p - 1, by have := hp.1; omega⟩
      rfl
    rw [this]; simp
  | a :: A, x => by
    have ih := iter_frob hp f A x
    obtain ⟨q, hq⟩ : ∃ q, p = q + 1 := ⟨p - 1, by have := hp.1; omega⟩
    rw [iter_cons, upto]
    have e1 : upto (fun k => (bin p k : Int) * iterOp A (p - k) f (x - k * a)) p = iterOp A p f x + upto (fun i => (bin p (i + 1) : Int) * iterOp A (p - (i + 1)) f (x - ((i + 1 : Nat) : Int) * a)) q := by
      have := upto_first (fun k => (bin p k : Int) * iterOp A (p - k) f (x - k * a)) q
      rw [← hq] at this
      rw [this]
      simp [bin_zero]
    rw [e1, bin_self, Nat.sub_self]
    have e2 : (p : Int) ∣ upto (fun i => (bin p (i + 1) : Int) * iterOp A (p - (i + 1)) f (x - ((i + 1 : Nat) : Int) * a)) q := by
      have : ∀ m, m ≤ q → (p : Int) ∣ upto (fun i => (bin p (i + 1) : Int) * iterOp A (p - (i + 1)) f (x - ((i + 1 : Nat) : Int) * a)) m := by
        intro m
        induction m with
        | zero => intro _; exact Int.dvd_zero _
        | succ m ihm =>
          intro hm
          exact Int.dvd_add (ihm (by omega)) (Int.dvd_mul_of_dvd_left (Int.natCast_dvd_natCast.2 (hp.2 (m + 1) (by omega) (by omega))))
      exact this q (Nat.le_refl _)
    have e3 := Int.dvd_add ih e2
    simp only [List.map_cons, List.sum_cons, iterOp]
    have e4 : iterOp A p f x + upto (fun i => (bin p (i + 1) : Int) * iterOp A (p - (i + 1)) f (x - ((i + 1 : Nat) : Int) * a)) q + ((1 : Nat) : Int) * f (x - p * a) - (f (x - p * a) + (A.map fun a => f (x - p * a)).sum) = iterOp A p f x - (A.map fun a => f (x - p * a)).sum + upto (fun i => (bin p (i + 1) : Int) * iterOp A (p - (i + 1)) f (x - ((i + 1 : Nat) : Int) * a)) q := by
      generalize upto _ q = u
      generalize (A.map fun a => f (x - p * a)).sum = v
      simp only [Int.natCast_one, Int.one_mul]; omega
    rw [e4]; exact e3
/-- A and b fill the circle: each beat once -/
def TilesF (n : Nat) (A : List Int) (b : Int → Int) : Prop := (∀ x, 0 ≤ b x) ∧ (∀ x, b (x + n) = b x) ∧ (∀ x, sumOp A b x = 1)
theorem iter_tiles {n : Nat} {A : List Int} {b : Int → Int} (h : TilesF n A b) : ∀ (k : Nat) (x : Int), iterOp A (k + 1) b x = (A.length : Int) ^ k
  | 0, x => by simpa [iterOp] using h.2.2 x
  | k + 1, x => by
    show sumOp A (iterOp A (k + 1) b) x = _
    rw [show iterOp A (k + 1) b = fun _ => (A.length : Int) ^ k from funext (iter_tiles h k)]
    unfold sumOp
    rw [Int.pow_succ]
    generalize (A.length : Int) ^ k = c
    induction A with
    | nil => simp
    | cons a A ih =>
      have : ∀ B : List Int, (B.map fun _ => c).sum = c * B.length := by
        intro B; induction B with
        | nil => simp
        | cons b B ih => simp only [List.map_cons, List.sum_cons, ih, List.length_cons, Int.natCast_add, Int.mul_add]; omega
      exact this _
theorem sum_const (c : Int) : ∀ B : List Int, (B.map fun _ => c).sum = c * B.length
  | [] => by simp
  | b :: B => by simp only [List.map_cons, List.sum_cons, sum_const c B, List.length_cons, Int.natCast_add, Int.mul_add]; omega
/-- the sum over one time around does not hang on where it begins -/
theorem upto_turn {n : Nat} (b : Int → Int) (hb : ∀ x, b (x + n) = b x) (c : Int) : upto (fun i => b (i + c)) n = upto (fun i => b i) n := by
  have step : ∀ c : Int, upto (fun i => b (i + (c + 1))) n = upto (fun i => b (i + c)) n := by
    intro c
    have h1 := upto_first (fun i => b (i + c)) n
    have h2 : upto (fun i => b (i + c)) (n + 1) = upto (fun i => b (i + c)) n + b (n + c) := rfl
    have h3 : b (n + c) = b (((0 : Nat) : Int) + c) := by rw [Int.add_comm, hb]; simp
    have h4 : upto (fun i => b (((i + 1 : Nat) : Int) + c)) n = upto (fun i => b (i + (c + 1))) n := upto_congr (fun i _ => by congr 1; omega)
    omega
  have up : ∀ k : Nat, ∀ c : Int, upto (fun i => b (i + (c + k))) n = upto (fun i => b (i + c)) n := by
    intro k
    induction k with
    | zero => intro c; simp
    | succ k ih => intro c; rw [← ih c, ← step (c + k)]; apply upto_congr; intro i _; congr 1; omega
  rcases Int.le_total 0 c with h | h
  · obtain ⟨k, rfl⟩ := Int.eq_ofNat_of_zero_le h
    have := up k 0
    simpa using this
  · obtain ⟨k, hk⟩ := Int.eq_ofNat_of_zero_le (show 0 ≤ -c by omega)
    have := up k c
    rw [← this]; apply upto_congr; intro i _; congr 1; omega
theorem upto_sumOp {n : Nat} (b : Int → Int) (hb : ∀ x, b (x + n) = b x) (A : List Int) : upto (fun i => sumOp A b i) n = upto (fun i => b i) n * A.length := by
  induction A with
  | nil => have : ∀ m, upto (fun i => sumOp [] b i) m = 0 := by
             intro m; induction m with
             | zero => rfl
             | succ m ih => rw [upto, ih]; rfl
           rw [this]; simp
  | cons a A ih =>
    simp only [sumOp_cons]
    rw [upto_add, ih]
    have : upto (fun i => b (i - a)) n = upto (fun i => b i) n := by
      rw [← upto_turn b hb (-a)]; apply upto_congr; intro i _; congr 1
    rw [this, List.length_cons, Int.natCast_add, Int.mul_add]; omega
theorem sumOp_period {n : Nat} (b : Int → Int) (hb : ∀ x, b (x + n) = b x) (A : List Int) (x : Int) : sumOp A b (x + n) = sumOp A b x := by
  unfold sumOp
  congr 1
  apply List.map_congr_left
  intro a _
  rw [show x + n - a = (x - a) + n by omega, hb]
theorem upto_ge {f : Nat → Int} : ∀ {n : Nat}, (∀ i, i < n → 1 ≤ f i) → (n : Int) ≤ upto f n
  | 0, _ => by simp [upto]
  | n + 1, h => by have := upto_ge (f := f) (n := n) (fun i hi => h i (by omega)); have := h n (by omega); simp only [upto]; omega
theorem upto_one {f : Nat → Int} : ∀ {n : Nat}, (∀ i, i < n → 1 ≤ f i) → upto f n = n → ∀ i, i < n → f i = 1
  | 0, _, _, _, h => by omega
  | n + 1, h, e, i, hi => by
    have h1 := upto_ge (f := f) (n := n) (fun i hi => h i (by omega))
    have h2 := h n (by omega)
    simp only [upto] at e
    rcases Nat.lt_or_ge i n with h3 | h3
    · exact upto_one (fun i hi => h i (by omega)) (by omega) i h3
    · obtain rfl : i = n := by omega
      omega
theorem period_mod {n : Nat} (f : Int → Int) (hf : ∀ x, f (x + n) = f x) (x : Int) : f x = f (x % n) := by
  have up : ∀ (k : Nat) (x : Int), f (x + n * k) = f x := by
    intro k
    induction k with
    | zero => intro x; simp
    | succ k ih => intro x; rw [Int.natCast_add, Int.mul_add, ← Int.add_assoc]; simp only [Int.natCast_one, Int.mul_one]; rw [hf, ih]
  have h := Int.mul_ediv_add_emod x n
  rcases Int.le_total 0 (x / n) with h0 | h0
  · obtain ⟨k, hk⟩ := Int.eq_ofNat_of_zero_le h0
    rw [hk] at h
    have := up k (x % n)
    rw [← this]; congr 1; omega
  · obtain ⟨k, hk⟩ := Int.eq_ofNat_of_zero_le (show 0 ≤ -(x / n) by omega)
    have e : (n : Int) * (x / n) = -(n * k) := by rw [← hk, Int.mul_neg]; omega
    have := up k x
    rw [← this]; congr 1; omega
theorem tiles_frob {n p : Nat} (hn : 0 < n) (hp : Frob p) (hp1 : 1 < p) (hc : Nat.Coprime p n) {A : List Int} {b : Int → Int} (h : TilesF n A b) : TilesF n (A.map fun a => p * a) b := by
  refine ⟨h.1, h.2.1, ?_⟩
  have hsum := upto_sumOp b h.2.1 A
  rw [show (fun i : Nat => sumOp A b i) = fun _ => (1 : Int) from funext fun i => h.2.2 _] at hsum
  have hone : ∀ m : Nat, upto (fun _ => (1 : Int)) m = m := by
    intro m; induction m with
    | zero => rfl
    | succ m ih => rw [upto, ih]; omega
  rw [hone] at hsum
  have hdv : A.length ∣ n := by
    have : (A.length : Int) ∣ (n : Int) := ⟨_, by rw [Int.mul_comm]; exact hsum⟩
    exact Int.natCast_dvd_natCast.1 this
  have hcA : Nat.Coprime p A.length := Nat.Coprime.coprime_dvd_right hdv hc
  have e0 : ∀ x, sumOp (A.map fun a => p * a) b x = (A.map fun a => b (x - p * a)).sum := by
    intro x; unfold sumOp; rw [List.map_map]; rfl
  have hge : ∀ x, 1 ≤ sumOp (A.map fun a => p * a) b x := by
    intro x
    have h0 : 0 ≤ sumOp (A.map fun a => p * a) b x := by
      unfold sumOp
      generalize (A.map fun a => (p : Int) * a) = B
      induction B with
      | nil => simp
      | cons c B ih => have := h.1 (x - c); simp only [List.map_cons, List.sum_cons]; omega
    have hne : sumOp (A.map fun a => p * a) b x ≠ 0 := by
      intro e
      have hf := iter_frob hp b A x
      rw [← e0, e, Int.sub_zero, show p = (p - 1) + 1 by omega, iter_tiles h] at hf
      rw [show p - 1 + 1 = p by omega, ← Int.natCast_pow] at hf
      have h3 := Int.natCast_dvd_natCast.1 hf
      have h4 := Nat.Coprime.pow_right (p - 1) hcA
      have h5 : p ∣ 1 := by
        have := Nat.dvd_gcd (Nat.dvd_refl p) h3
        rwa [h4] at this
      have := Nat.le_of_dvd (by omega) h5
      omega
    omega
  have hs2 := upto_sumOp b h.2.1 (A.map fun a => (p : Int) * a)
  rw [List.length_map, ← hsum] at hs2
  have hall := upto_one (f := fun i => sumOp (A.map fun a => p * a) b i) (fun i _ => hge _) hs2
  intro x
  rw [period_mod _ (sumOp_period b h.2.1 _) x]
  have h1 := Int.emod_nonneg x (show (n : Int) ≠ 0 by omega)
  have h2 := Int.emod_lt_of_pos x (show (0 : Int) < n by omega)
  have := hall (x % n).toNat (by omega)
  rwa [Int.toNat_of_nonneg h1] at this
def primes23 : List Nat := [2, 3, 5, 7, 11, 13, 17, 19, 23]
theorem frob_primes : ∀ p ∈ primes23, Frob p ∧ 1 < p := by
  have h : ∀ p ∈ primes23, 1 < p ∧ ∀ k, k < p → 0 < k → p ∣ bin p k := by decide +kernel
  intro p hp
  exact ⟨⟨by have := (h p hp).1; omega, fun k h0 h1 => (h p hp).2 k h1 h0⟩, (h p hp).1⟩
theorem tijdeman {n : Nat} (hn : 0 < n) : ∀ (m : Nat), 1 ≤ m → m ≤ 24 → Nat.Coprime m n → ∀ {A : List Int} {b : Int → Int}, TilesF n A b → TilesF n (A.map fun a => m * a) b := by
  intro m
  induction m using Nat.strongRecOn with
  | ind m ih =>
    intro h1 h24 hc A b h
    rcases Nat.eq_or_lt_of_le h1 with e | hlt
    · subst e
      simpa using h
    · have hd : ∀ m, m < 25 → 2 ≤ m → ∃ p ∈ primes23, p ∣ m := by decide +kernel
      obtain ⟨p, hp, q, rfl⟩ := hd m (by omega) hlt
      obtain ⟨hf, hp1⟩ := frob_primes p hp
      have hq : 1 ≤ q := by rcases Nat.eq_zero_or_pos q with e | e; (subst e; simp at hlt); exact e
      have hqlt : q < p * q := by have := Nat.mul_lt_mul_of_lt_of_le hp1 (Nat.le_refl q) hq; omega
      have t1 := tiles_frob hn hf hp1 (Nat.Coprime.coprime_mul_right hc) h
      have t2 := ih q hqlt hq (by omega) (Nat.Coprime.coprime_mul_left hc) t1
      rw [List.map_map] at t2
      have e : ((fun a : Int => (q : Int) * a) ∘ fun a => (p : Int) * a) = fun a => ((p * q : Nat) : Int) * a := by
        funext a
        simp only [Function.comp, Int.natCast_mul]
        rw [← Int.mul_assoc, Int.mul_comm (q : Int)]
      rwa [e] at t2
end Go.Proofs.Ytkidgakjeahebaa.P
