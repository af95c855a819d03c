/- A part of a proof that a law's Go function returns true for every input, laid by this session's program mp.py (which drives the kit's print). Conditions: as each theorem states them. -/
import Derived.Shelf.SlSortCmp.Whole1
import Derived.Ground.SlsfProg
import Derived.Lib.SliceRun
import Derived.Shelf.RegionOpenPlain
import Derived.WalkKit
import Derived.Deep.LoopGhost
import Derived.Deep.Draws
import Derived.Lib.Walk
import Derived.Sort.WalkB12
import Derived.Shelf.Abstract
import Derived.Shelf.RegionOpen
import Derived.Shelf.AbstractIn
import Derived.Sort.QuietIn
import Derived.OwnWalkIn
import Derived.TacticsInMore
import Derived.LoopNIn
import Derived.LoopIn
import Derived.Maps.OwnIn
import Derived.Test.YtknchioabngbiaaCRowsClosed1
import Derived.Test.YtknchioabngbiaaCRowsClosed2
import Derived.Test.YtknchioabngbiaaCRowsClosed3
namespace Go.Proofs.Ytknchioabngbiaa.P
open Go.RowKit Go.Proofs.YtknchioabngbiaaW.PrintWords Go.Proofs.YtknchioabngbiaaW.PrintLast Go.Proofs.YtknchioabngbiaaW.PrintMore
attribute [local go_sem] max2_int min2_int max_two min_two max_three min_three max_four min_four   -- for this text's walks alone
set_option linter.unusedVariables false
set_option linter.unusedSimpArgs false

/-! slices.SortFunc of slices of ints with slices.Compare: the kit's contract, laid at this seat (the two texts below are what the kit's laying command says) -/
open Go.Shelf in
def sortf_l_ren : Go.Shelf.Ren := ⟨fun | 6 => 46 | 15 => 44 | 14 => 69 | 28 => 67 | 29 => 68 | 20 => 75 | 21 => 76 | 22 => 77 | 23 => 78 | 24 => 79 | 25 => 80 | 26 => 81 | 27 => 82 | 46 => 84 | 47 => 71 | 48 => 72 | 49 => 85 | 50 => 86 | 57 => 87 | n => n, fun | 22 => 30 | 24 => 27 | 25 => 36 | 3 => 3 | 39 => 42 | 0 => 0 | 53 => 92 | 55 => 94 | 4 => 4 | 46 => 85 | 45 => 84 | 50 => 89 | 5 => 5 | 9 => 9 | 66 => 96 | 70 => 100 | 76 => 107 | 77 => 108 | n => n, fun | n => n⟩
set_option maxRecDepth 100000 in
open Go.Shelf in
theorem sortf_l : Go.Proofs.SlLaysF.n6 Try.prog sortf_l_ren := { mixed := by kernel_rfl, f6 := ⟨Try.f46.name, by decide, Try.func46.trans (congrArg some (by kernel_rfl))⟩, f14 := ⟨Try.f69.name, by decide, Try.func69.trans (congrArg some (by kernel_rfl))⟩, f15 := Try.func44.trans (congrArg some (by kernel_rfl)), f20 := ⟨Try.f75.name, by decide, Try.func75.trans (congrArg some (by kernel_rfl))⟩, f21 := ⟨Try.f76.name, by decide, Try.func76.trans (congrArg some (by kernel_rfl))⟩, f22 := ⟨Try.f77.name, by decide, Try.func77.trans (congrArg some (by kernel_rfl))⟩, f23 := ⟨Try.f78.name, by decide, Try.func78.trans (congrArg some (by kernel_rfl))⟩, f24 := ⟨Try.f79.name, by decide, Try.func79.trans (congrArg some (by kernel_rfl))⟩, f25 := ⟨Try.f80.name, by decide, Try.func80.trans (congrArg some (by kernel_rfl))⟩, f26 := ⟨Try.f81.name, by decide, Try.func81.trans (congrArg some (by kernel_rfl))⟩, f27 := ⟨Try.f82.name, by decide, Try.func82.trans (congrArg some (by kernel_rfl))⟩, f28 := Try.func67.trans (congrArg some (by kernel_rfl)), f29 := Try.func68.trans (congrArg some (by kernel_rfl)), f46 := ⟨Try.f84.name, by decide, Try.func84.trans (congrArg some (by kernel_rfl))⟩, f47 := Try.func71.trans (congrArg some (by kernel_rfl)), f48 := Try.func72.trans (congrArg some (by kernel_rfl)), f49 := ⟨Try.f85.name, by decide, Try.func85.trans (congrArg some (by kernel_rfl))⟩, f50 := ⟨Try.f86.name, by decide, Try.func86.trans (congrArg some (by kernel_rfl))⟩, f57 := ⟨Try.f87.name, by decide, Try.func87.trans (congrArg some (by kernel_rfl))⟩, t0 := Try.underlying0, a0 := Try.isAgg0, z0 := Try.sizeOf0, v0 := Try.zeroValue0, t3 := Try.underlying3, a3 := Try.isAgg3, z3 := Try.sizeOf3, v3 := Try.zeroValue3, t4 := Try.underlying4, a4 := Try.isAgg4, z4 := Try.sizeOf4, v4 := Try.zeroValue4, t5 := Try.underlying5, a5 := Try.isAgg5, z5 := Try.sizeOf5, v5 := Try.zeroValue5, t9 := Try.underlying9, a9 := Try.isAgg9, z9 := Try.sizeOf9, v9 := Try.zeroValue9, t22 := Try.underlying30, a22 := Try.isAgg30, z22 := Try.sizeOf30, v22 := Try.zeroValue30, a24 := Try.isAgg27, z24 := Try.sizeOf27, t25 := Try.underlying36, a25 := Try.isAgg36, z25 := Try.sizeOf36, v25 := Try.zeroValue36, t39 := Try.underlying42, a39 := Try.isAgg42, z39 := Try.sizeOf42, v39 := Try.zeroValue42, t45 := Try.underlying84, a45 := Try.isAgg84, z45 := Try.sizeOf84, v45 := Try.zeroValue84, t46 := Try.underlying85, a46 := Try.isAgg85, z46 := Try.sizeOf85, v46 := Try.zeroValue85, t50 := Try.underlying89, a50 := Try.isAgg89, z50 := Try.sizeOf89, v50 := Try.zeroValue89, t53 := Try.underlying92, a53 := Try.isAgg92, z53 := Try.sizeOf92, v53 := Try.zeroValue92, t55 := Try.underlying94, a55 := Try.isAgg94, z55 := Try.sizeOf94, v55 := Try.zeroValue94, t66 := Try.underlying96, a66 := Try.isAgg96, z66 := Try.sizeOf96, v66 := Try.zeroValue96, t70 := Try.underlying100, a70 := Try.isAgg100, z70 := Try.sizeOf100, v70 := Try.zeroValue100, t76 := Try.underlying107, a76 := Try.isAgg107, z76 := Try.sizeOf107, v76 := Try.zeroValue107, t77 := Try.underlying108, a77 := Try.isAgg108, z77 := Try.sizeOf108, v77 := Try.zeroValue108 }
abbrev kL : Kd (List Int) := Kd.slice 3 (Kd.int .i64)
/-- an element of such a row: its value and its tones -/
abbrev RowE (w : World) (base : Nat) (ok : Nat → Prop) (v : Value) (n : Nat) : Type := { p : Value × List Int // Kd.R (Kd.int .i64) 3 w base (fun k => ok k ∧ some k ≠ v.ownBlock) p.1 p.2 ∧ p.2.length = n }
def encE {w : World} {base : Nat} {ok : Nat → Prop} {v : Value} {n : Nat} (x : RowE w base ok v n) : Value := x.1.1
def cmpE {w : World} {base : Nat} {ok : Nat → Prop} {v : Value} {n : Nat} (x y : RowE w base ok v n) : Int := cmpL x.1.2 y.1.2
theorem encE_one {w : World} {base : Nat} {ok : Nat → Prop} {v : Value} {n : Nat} : OneCell (encE (w := w) (base := base) (ok := ok) (v := v) (n := n)) := fun x => by
  obtain ⟨A, c, e⟩ := Kd.R_slice x.2.1
  unfold encE
  rw [e]; rfl
theorem ltOf_E {w : World} {base : Nat} {ok : Nat → Prop} {v : Value} {n : Nat} (x y : RowE w base ok v n) : ltOf cmpE x y = lessL x.1.2 y.1.2 := by
  have h := lessL_cmp x.1.2 y.1.2 (by rw [x.2.2, y.2.2])
  unfold ltOf cmpE
  cases c : lessL x.1.2 y.1.2 with
  | true => exact decide_eq_true (h.1 c)
  | false => exact decide_eq_false (fun h2 => by rw [h.2 h2] at c; cases c)
open Go.Sort in
theorem swo_E {w : World} {base : Nat} {ok : Nat → Prop} {v : Value} {n : Nat} : SWO (ltOf (cmpE (w := w) (base := base) (ok := ok) (v := v) (n := n))) where
  irrefl x := by rw [ltOf_E]; exact lessL_irr _
  trans x y z h1 h2 := by rw [ltOf_E] at *; exact lessL_trans _ _ _ h1 h2
  ntrans x y z h1 h2 := by
    rw [ltOf_E] at *
    cases c : lessL x.1.2 z.1.2 with
    | false => rfl
    | true =>
      by_cases e : y.1.2 = x.1.2
      · rw [e, c] at h2; cases h2
      · have hyx := lessL_tri (by rw [y.2.2, x.2.2]) h1 e
        rw [lessL_trans _ _ _ hyx c] at h2; cases h2
theorem reps_E {w : World} {base : Nat} {ok : Nat → Prop} {v : Value} {n : Nat} (xs : List (List Int)) (inner : List Value) (hr : Reps ((Kd.slice 3 (Kd.int .i64)).M w base (fun k => ok k ∧ some k ≠ v.ownBlock)) 1 xs inner) (hn : ∀ x ∈ xs, x.length = n) : ∃ d : List (RowE w base ok v n), d.map encE = inner ∧ d.map (fun x => x.1.2) = xs := by
  have hl : inner.length = xs.length := by rw [hr.1, Nat.mul_one]
  have key : ∀ i : Fin xs.length, Kd.R (Kd.int .i64) 3 w base (fun k => ok k ∧ some k ≠ v.ownBlock) (inner[i.1]'(by rw [hl]; exact i.2)) (xs[i.1]'i.2) ∧ (xs[i.1]'i.2).length = n := by
    intro i
    obtain ⟨v', e, h⟩ := hr.2 i.1 _ (List.getElem?_eq_getElem i.2)
    have hi : i.1 < inner.length := by rw [hl]; exact i.2
    rw [Nat.mul_one, List.drop_eq_getElem_cons hi] at e
    simp only [List.take_succ_cons, List.take_zero, List.cons.injEq, and_true] at e
    rw [e]
    exact ⟨h, hn _ (List.getElem_mem _)⟩
  refine ⟨(List.finRange xs.length).map fun i => ⟨(inner[i.1]'(by rw [hl]; exact i.2), xs[i.1]'i.2), key i⟩, ?_, ?_⟩
  · rw [List.map_map]
    apply List.ext_getElem
    · simp [hl]
    · intro i h1 h2; simp [encE]
  · rw [List.map_map]
    apply List.ext_getElem
    · simp
    · intro i h1 h2; simp
theorem reps_back {w w1 : World} {base : Nat} {ok : Nat → Prop} {v : Value} {n : Nat} (hm : ∀ k, some k ≠ v.ownBlock → k < w.heap.size → w1.heap[k]? = w.heap[k]?) : ∀ d : List (RowE w base ok v n), Reps ((Kd.slice 3 (Kd.int .i64)).M w1 base (fun k => ok k ∧ some k ≠ v.ownBlock)) 1 (d.map (fun x => x.1.2)) (d.map encE) := by
  intro d
  refine ⟨by simp, fun j p hp => ?_⟩
  rw [List.getElem?_map, Option.map_eq_some_iff] at hp
  obtain ⟨x, hx, rfl⟩ := hp
  have hj : j < (d.map encE).length := by rw [List.length_map]; exact (List.getElem?_eq_some_iff.1 hx).1
  rw [Nat.mul_one, List.drop_eq_getElem_cons hj]
  refine ⟨encE x, ?_, Kd.R_step x.2.1 (fun k hk hl => hm k hk.2 hl)⟩
  have := (List.getElem?_eq_some_iff.1 hx).2
  simp [this]
theorem own_holdsE {α : Type} [Inhabited α] (enc : α → Value) {w : World} {e : TypeId} {l0 : List α} {g cap : Nat} {cur : Array Value} (hgg : w.heap[g]? = some (.cells cur e (0, 0))) (hnc : l0.length ≤ cap) (hcs : cur.size = cap * 1) (htk : cur.toList.take (l0.length * 1) = l0.map enc) : Go.Sort.Holds enc w g 0 l0.toArray := by
  intro j hj
  have hj' : j < l0.length := by simpa using hj
  have hjc : j < cur.size := by omega
  have hcell : cur.toList[j]? = some (enc l0[j]) := by
    have := congrArg (fun z => z[j]?) htk
    simp only [Nat.mul_one, List.getElem?_take, if_pos hj', List.getElem?_map, List.getElem?_eq_getElem hj', Option.map_some] at this
    exact this
  constructor
  · unfold World.cell?
    simp only [hgg, Nat.zero_add]
    rw [← Array.getElem?_toList, hcell]
    simp [hj']
  · unfold World.frozen?
    simp only [hgg]; simp
theorem extract_all {α : Type} (a : Array α) {m : Nat} (h : a.size = m) : a.extract 0 m = a := by subst h; simp
theorem kpc_row {A B : World} {g : Nat} (hg : A.grownBy B (some g)) : KpC (fun b _ => b = g) A B := ⟨hg.size, fun b o hb ho _ => (hg.block b (Array.getElem?_eq_some_iff.1 ho).1 (fun e => hb (Option.some.inj e))).trans ho⟩
open Go.Sort in
set_option maxHeartbeats 2000000 in
theorem sortRows_calls (w : World) (base : Nat) (ok : Nat → Prop) (v : Value) (n : Nat) (xs : List (List Int)) (hn : ∀ x ∈ xs, x.length = n) (hn2 : n < 1000) (hx : 0 < xs.length) (hx2 : xs.length < 100000)
    (h : Kd.R (Kd.slice 3 (Kd.int .i64)) 27 w base ok v xs) :
    Calls Try.prog 46 #[v, .func (.func 14) #[] #[]] w fun e w' => e = .returned (.tuple #[]) ∧ ∃ ys, ys.Perm xs ∧ ys.Pairwise (fun a b => lessL b a = false) ∧ Kd.R (Kd.slice 3 (Kd.int .i64)) 27 w' base ok v ys ∧ w.grownBy w' v.ownBlock := by
  obtain ⟨h0, inner, ho, hr⟩ := h
  rcases ho.2 with ⟨rfl, hz⟩ | ⟨g, cap, cur, rfl, hbg, hgg, hnc, hcm, hcs, htk⟩
  · omega
  have hown : (Value.slice (some ⟨g, 0, none⟩) xs.length cap).ownBlock = some g := rfl
  obtain ⟨d, hd1, hd2⟩ := reps_E (n := n) xs inner hr hn
  have hdl : d.length = xs.length := by
    have := congrArg List.length hd2
    rw [List.length_map] at this; exact this
  haveI : Inhabited (RowE w base ok (.slice (some ⟨g, 0, none⟩) xs.length cap) n) := ⟨d[0]'(by omega)⟩
  have hH := own_holdsE encE (l0 := d) hgg (by omega) hcs (by rw [hdl, hd1]; exact htk)
  have hgl : g < w.heap.size := (Array.getElem?_eq_some_iff.1 hgg).1
  have hcmp : CmpLays1 Try.prog 14 #[] encE (cmpE (w := w) (base := base) (ok := ok) (v := .slice (some ⟨g, 0, none⟩) xs.length cap) (n := n)) g 0 d.toArray.size w := by
    intro m os dk hs x y
    obtain ⟨hgr, _⟩ := sorted_world encE w m g dk os cur _ _ hgg _ rfl
    obtain ⟨⟨vx, lx⟩, hx1, hx2⟩ := x
    obtain ⟨⟨vy, ly⟩, hy1, hy2⟩ := y
    obtain ⟨Ax, cx, ex⟩ := Kd.R_slice hx1
    obtain ⟨Ay, cy, ey⟩ := Kd.R_slice hy1
    simp only at ex ey
    subst ex ey
    obtain ⟨k, hk⟩ := Ev.rounds (g := fun k => slices_Compare_int_int.f k lx ly) (Compare_ev lx ly (by simp only at hx2 hy2; omega) (by simp only at hx2; omega))
    have rx := Kd.R_reads' (Kd.R_step (w1 := sortWorld encE w g 0 m dk os) hx1 (fun k hk hl => hgr.block k hl (fun e => hk.2 e)))
    have ry := Kd.R_reads' (Kd.R_step (w1 := sortWorld encE w g 0 m dk os) hy1 (fun k hk hl => hgr.block k hl (fun e => hk.2 e)))
    have hc := slices_Compare_int_int.calls k Ax cx lx Ay cy ly _ (sortWorld encE w g 0 m dk os) rx.2.2 rx.2.1 ry.2.2 ry.2.1 hk
    refine Calls.mono (show Calls Try.prog 14 _ _ _ from hc) ?_
    rintro e w' ⟨rfl, ⟨q, rfl⟩⟩
    exact ⟨rfl, q, #[], by rw [grow_empty]⟩
  have hc := Any.slices_SortFunc sortf_l encE encE_one cmpE swo_E 14 #[] g 0 cap d.toArray w (enters_of Try.func14 (by kernel_rfl) rfl) hcmp hH hgl (by simp; omega)
  have hsz : d.toArray.size = xs.length := by simp [hdl]
  rw [hsz] at hc
  refine Calls.mono (show Calls Try.prog 46 _ _ _ from hc) ?_
  rintro e w' ⟨rfl, d', m, os, hp, hs, hw⟩
  obtain ⟨hg, hb⟩ := sorted_world encE w m g d' os cur _ _ hgg w' hw
  have hds : d'.size = xs.length := by rw [hp.1, hsz]
  have hpl : d'.toList.Perm d := by
    have h := hp.2.2
    rw [extract_all d' hds, extract_all d.toArray hsz] at h
    exact h
  refine ⟨rfl, d'.toList.map (fun x => x.1.2), ?_, ?_, ?_, hg⟩
  · rw [← hd2]; exact hpl.map _
  · rw [List.pairwise_map, List.pairwise_iff_getElem]
    intro i j hi hj hij
    have hj' : j < d'.size := by simpa using hj
    have := hs i j (Nat.zero_le _) hij (by omega)
    rw [ltOf_E, getElem!_pos d' j hj', getElem!_pos d' i (by omega)] at this
    simpa using this
  · have hll : (d'.toList.map (fun x => x.1.2)).length = xs.length := by simp [hds]
    refine ⟨h0, d'.toList.map encE, ?_, reps_back (v := .slice (some ⟨g, 0, none⟩) xs.length cap) (fun k hk hl => hg.block k hl hk) d'.toList⟩
    rw [hll]
    refine ⟨by simp [hds, Kd.slice], .inr ⟨g, cap, _, rfl, hbg, hb, hnc, hcm, by simp [putCells, hcs, Kd.slice], ?_⟩⟩
    have hcs1 : cur.size = cap * 1 := hcs
    have := putCells_take encE d' cur (by omega)
    rw [hds] at this
    show List.take (xs.length * 1) _ = _
    rw [Nat.mul_one]; exact this

end Go.Proofs.Ytknchioabngbiaa.P
namespace Go.Proofs.Ytknchioabngbiaa.P
open Go.RowKit Go.Proofs.YtknchioabngbiaaW.PrintWords Go.Proofs.YtknchioabngbiaaW.PrintLast Go.Proofs.YtknchioabngbiaaW.PrintMore
attribute [local go_sem] max2_int min2_int max_two min_two max_three min_three max_four min_four   -- for this text's walks alone
set_option linter.unusedVariables false
set_option linter.unusedSimpArgs false

/-! ### slices_Equal_int_int: function 11 -/
def slices_Equal_int_int.l0 : Nat → List Int → List Int → Int → Int → Option (Bool)
  | 0, _, _, _, _ => none
  | k + 1, x0, x1, x12, x13 => if x13 < x12 then (if 0 ≤ x13 then (if x13 < (x0.length : Int) then (if x13 < (x1.length : Int) then (if (rd x0 x13) = (rd x1 x13) then (slices_Equal_int_int.l0 k x0 x1 x12 (wrap64 (x13 + 1))) else (some false)) else (none)) else (none)) else (none)) else (some true)
def slices_Equal_int_int.f (k : Nat) (l0 : List Int) (l1 : List Int) : Option (Bool) := if (l0.length : Int) = (l1.length : Int) then (slices_Equal_int_int.l0 k l0 l1 (l0.length : Int) 0) else (some false)
theorem slices_Equal_int_int.mono_l : ∀ k, (∀ y0 y1 y2 y3, LeO (slices_Equal_int_int.l0 k y0 y1 y2 y3) (slices_Equal_int_int.l0 (k + 1) y0 y1 y2 y3))
  | 0 => fun _ _ _ _ r h => by simp [slices_Equal_int_int.l0] at h
  | k + 1 => by
    have ih0 := slices_Equal_int_int.mono_l k
    · intro y0 y1 y2 y3
      unfold slices_Equal_int_int.l0
      repeat' first
      | (with_reducible exact ih0 _ _ _ _)
      | (with_reducible exact LeO.refl _)
      | (with_reducible exact LeO.none _)
      | (with_reducible refine LeO.ite ?_ ?_)
      | (with_reducible refine LeO.bind ?_ (fun _ => ?_))
      | exact ih0 _ _ _ _
      | exact LeO.none _
      | refine LeO.ite ?_ ?_
      | refine LeO.bind ?_ (fun _ => ?_)
theorem slices_Equal_int_int.mono : ∀ a0 a1 k, LeO (slices_Equal_int_int.f k a0 a1) (slices_Equal_int_int.f (k + 1) a0 a1) := by
  intro a0 a1 k
  have ih0 := slices_Equal_int_int.mono_l k
  unfold slices_Equal_int_int.f
  repeat' first
      | (with_reducible exact ih0 _ _ _ _)
      | (with_reducible exact LeO.refl _)
      | (with_reducible exact LeO.none _)
      | (with_reducible refine LeO.ite ?_ ?_)
      | (with_reducible refine LeO.bind ?_ (fun _ => ?_))
      | exact ih0 _ _ _ _
      | exact LeO.none _
      | refine LeO.ite ?_ ?_
      | refine LeO.bind ?_ (fun _ => ?_)
set_option maxHeartbeats 8000000 in
set_option maxRecDepth 100000 in
theorem slices_Equal_int_int.calls (k : Nat) (A0 : Option Addr) (c0 : Nat) (l0 : List Int) (A1 : Option Addr) (c1 : Nat) (l1 : List Int) (r : Bool) (w : World) (hr0 : Kd.C (Kd.int .i64) w A0 l0.length l0) (hc0 : l0.length ≤ c0) (hr1 : Kd.C (Kd.int .i64) w A1 l1.length l1) (hc1 : l1.length ≤ c1) (h : slices_Equal_int_int.f k l0 l1 = some r) :
    Calls Try.prog 11 #[.slice A0 l0.length c0, .slice A1 l1.length c1] w fun e w' => e = .returned (.bool r) ∧ Drawn0 w w' := by
  have HR0 := Aside0.mk hr0
  have HC0 := Aside0.mk hc0
  clear hr0 hc0
  have HR1 := Aside0.mk hr1
  have HC1 := Aside0.mk hc1
  clear hr1 hc1
  have H : (if (l0.length : Int) = (l1.length : Int) then (slices_Equal_int_int.l0 k l0 l1 (l0.length : Int) 0) else (some false)) = some r := h
  clear h
  by_cases c3 : (l0.length : Int) = (l1.length : Int)
  · rw [if_pos c3] at H
    have c3b0 : ((l0.length : Int) == (l1.length : Int)) = true := beq_iff_eq.mpr c3
    have c3b1 : ((l0.length : Int) != (l1.length : Int)) = false := bne_eq_false_iff_eq.mpr c3
    have c3b2 : (l0.length == l1.length) = true := by first | simpa using c3 | (simp at c3 ⊢; omega)
    clear c3
    have H' := Aside0.mk H
    clear H
    go_enter Try.func11, Try.ntmps11
    go_wp2
    repeat (go_quiet (fail); try go_wp2)
    go_loopg [13] k (fun kq v13 w' => ∃ (x13_1 : Int), v13 = .int .i64 x13_1 ∧ Aside0 (slices_Equal_int_int.l0 kq l0 l1 (l0.length : Int) x13_1 = some r) ∧ Aside0 (kq ≤ k) ∧ Drawn0 w w')
    case atStart => exact ⟨(0), (by first | rfl | (simp; done) | (simp [*]; done)), H', ⟨Nat.le_refl _⟩, by repeat (first | exact Drawn0.refl _ | apply Drawn0.step)⟩
    case round =>
      clear H'
      try clear c1
      try clear p2
      try clear c3
      try clear c3b0
      try clear c3b1
      try clear c3b2
      obtain ⟨x13_1, rfl, HA, HK1, ⟨m1, rfl⟩⟩ := hrel
      cases gk with
      | zero => exact absurd HA.out (by simp [slices_Equal_int_int.l0])
      | succ k1 =>
        have H := HA.out
        clear HA
        simp only [slices_Equal_int_int.l0] at H
        by_cases c4 : x13_1 < (l0.length : Int)
        · rw [if_pos c4] at H
          have c4b0 : decide (x13_1 < (l0.length : Int)) = true := decide_eq_true c4
          clear c4
          by_cases c5 : 0 ≤ x13_1
          · rw [if_pos c5] at H
            have c5b0 : decide (0 ≤ x13_1) = true := decide_eq_true c5
            clear c5
            by_cases c6 : x13_1 < (l0.length : Int)
            · rw [if_pos c6] at H
              have c6b0 : decide (x13_1 < (l0.length : Int)) = true := decide_eq_true c6
              clear c6
              by_cases c7 : x13_1 < (l1.length : Int)
              · rw [if_pos c7] at H
                have c7b0 : decide (x13_1 < (l1.length : Int)) = true := decide_eq_true c7
                clear c7
                by_cases c8 : (rd l0 x13_1) = (rd l1 x13_1)
                · rw [if_pos c8] at H
                  have c8b0 : ((rd l0 x13_1) == (rd l1 x13_1)) = true := beq_iff_eq.mpr c8
                  have c8b1 : ((rd l0 x13_1) != (rd l1 x13_1)) = false := bne_eq_false_iff_eq.mpr c8
                  clear c8
                  have H' := Aside0.mk H
                  clear H
                  have p1001 : 0 ≤ (x13_1 : Int) := of_decide_eq_true (by first | (with_reducible assumption) | assumption)
                  have q1001 : x13_1 < (l0.length : Int) := of_decide_eq_true (by first | (with_reducible assumption) | assumption)
                  obtain ⟨ad1001, e1001, hx1001_0⟩ := Kd.at_int HR0.out x13_1 p1001 q1001
                  cases e1001
                  replace p1001 := eq_true p1001
                  replace q1001 := eq_true q1001
                  have p1002 : 0 ≤ (x13_1 : Int) := of_decide_eq_true (by first | (with_reducible assumption) | assumption)
                  have q1002 : x13_1 < (l1.length : Int) := of_decide_eq_true (by first | (with_reducible assumption) | assumption)
                  obtain ⟨ad1002, e1002, hx1002_0⟩ := Kd.at_int HR1.out x13_1 p1002 q1002
                  cases e1002
                  replace p1002 := eq_true p1002
                  replace q1002 := eq_true q1002
                  go_wp2
                  repeat (go_quiet (fail); try go_wp2)
                  go_roundg k1
                  case measure => have := HK1.out; omega
                  case rel => exact ⟨(wrap64 (x13_1 + 1)), (by first | rfl | (simp; done) | (simp [*]; done)), H', ⟨by have := HK1.out; omega⟩, by repeat (first | exact Drawn0.refl _ | apply Drawn0.step)⟩
                · rw [if_neg c8] at H
                  have c8b0 : ((rd l0 x13_1) == (rd l1 x13_1)) = false := beq_eq_false_iff_ne.mpr c8
                  have c8b1 : ((rd l0 x13_1) != (rd l1 x13_1)) = true := bne_iff_ne.mpr c8
                  obtain rfl := Option.some.inj H
                  have p1001 : 0 ≤ (x13_1 : Int) := of_decide_eq_true (by first | (with_reducible assumption) | assumption)
                  have q1001 : x13_1 < (l0.length : Int) := of_decide_eq_true (by first | (with_reducible assumption) | assumption)
                  obtain ⟨ad1001, e1001, hx1001_0⟩ := Kd.at_int HR0.out x13_1 p1001 q1001
                  cases e1001
                  replace p1001 := eq_true p1001
                  replace q1001 := eq_true q1001
                  have p1002 : 0 ≤ (x13_1 : Int) := of_decide_eq_true (by first | (with_reducible assumption) | assumption)
                  have q1002 : x13_1 < (l1.length : Int) := of_decide_eq_true (by first | (with_reducible assumption) | assumption)
                  obtain ⟨ad1002, e1002, hx1002_0⟩ := Kd.at_int HR1.out x13_1 p1002 q1002
                  cases e1002
                  replace p1002 := eq_true p1002
                  replace q1002 := eq_true q1002
                  go_wp2
                  repeat (go_quiet (fail); try go_wp2)
                  go_ret
                  exact ⟨by first | rfl | (simp; done) | (simp [*]; done), by repeat (first | exact Drawn0.refl _ | apply Drawn0.step)⟩
              · rw [if_neg c7] at H
                exact absurd H (by simp)
            · rw [if_neg c6] at H
              exact absurd H (by simp)
          · rw [if_neg c5] at H
            exact absurd H (by simp)
        · rw [if_neg c4] at H
          have c4b0 : decide (x13_1 < (l0.length : Int)) = false := decide_eq_false c4
          clear c4
          obtain rfl := Option.some.inj H
          go_wp2
          repeat (go_quiet (fail); try go_wp2)
          go_ret
          exact ⟨by first | rfl | (simp; done) | (simp [*]; done), by repeat (first | exact Drawn0.refl _ | apply Drawn0.step)⟩
  · rw [if_neg c3] at H
    have c3b0 : ((l0.length : Int) == (l1.length : Int)) = false := beq_eq_false_iff_ne.mpr c3
    have c3b1 : ((l0.length : Int) != (l1.length : Int)) = true := bne_iff_ne.mpr c3
    have c3b2 : (l0.length == l1.length) = false := by first | simpa using c3 | (simp at c3 ⊢; omega)
    obtain rfl := Option.some.inj H
    go_enter Try.func11, Try.ntmps11
    go_wp2
    repeat (go_quiet (fail); try go_wp2)
    go_ret
    exact ⟨by first | rfl | (simp; done) | (simp [*]; done), by repeat (first | exact Drawn0.refl _ | apply Drawn0.step)⟩

end Go.Proofs.Ytknchioabngbiaa.P
namespace Go.Proofs.Ytknchioabngbiaa.P
open Go.RowKit Go.Proofs.YtknchioabngbiaaW.PrintWords Go.Proofs.YtknchioabngbiaaW.PrintLast Go.Proofs.YtknchioabngbiaaW.PrintMore
attribute [local go_sem] max2_int min2_int max_two min_two max_three min_three max_four min_four   -- for this text's walks alone
set_option linter.unusedVariables false
set_option linter.unusedSimpArgs false

/-! slices.Equal -/
theorem Equal_loop (l0 l1 : List Int) (hlen : l0.length = l1.length) (hb : l0.length < 9223372036854775807) : ∀ (xs ys pre pre1 : List Int), l0 = pre ++ xs → l1 = pre1 ++ ys → pre.length = pre1.length →
    Ev (fun k => slices_Equal_int_int.l0 k l0 l1 (l0.length : Int) (pre.length : Int)) (decide (xs = ys)) := by
  intro xs
  induction xs with
  | nil =>
    intro ys pre pre1 h0 h1 hp
    have hy : ys = [] := by
      have := congrArg List.length h0; have := congrArg List.length h1
      simp at *
      exact List.eq_nil_of_length_eq_zero (by omega)
    subst hy
    refine Ev.succ ?_
    simp only [slices_Equal_int_int.l0, if_neg (mid_end h0)]
    simpa using Ev.some true
  | cons x xs ih =>
    intro ys pre pre1 h0 h1 hp
    cases ys with
    | nil => exfalso; have := congrArg List.length h0; have := congrArg List.length h1; simp at *; omega
    | cons y ys =>
      have r1 : rd l1 (pre.length : Int) = y := by rw [hp]; exact mid_rd h1
      have l1' : (pre.length : Int) < (l1.length : Int) := by rw [hp]; exact mid_lt h1
      refine Ev.succ ?_
      simp only [slices_Equal_int_int.l0, if_pos (mid_lt h0), if_pos (show (0 : Int) ≤ (pre.length : Int) by omega), if_pos l1', mid_rd h0, r1, mid_next h0 hb]
      refine Ev.ite (fun e => ?_) (fun e => ?_)
      · have := ih ys (pre ++ [x]) (pre1 ++ [y]) (mid_mv h0) (mid_mv h1) (by simp [hp])
        simpa [e] using this
      · simpa [e] using Ev.some false
theorem Equal_ev (l0 l1 : List Int) (hb : l0.length < 9223372036854775807) : Ev (fun k => slices_Equal_int_int.f k l0 l1) (decide (l0 = l1)) := by
  unfold slices_Equal_int_int.f
  refine Ev.ite (fun e => ?_) (fun e => ?_)
  · exact Equal_loop l0 l1 (by omega) hb l0 l1 [] [] rfl rfl rfl
  · have : l0 ≠ l1 := fun h => e (by rw [h])
    simpa [this] using Ev.some false


end Go.Proofs.Ytknchioabngbiaa.P
namespace Go.Proofs.Ytknchioabngbiaa.P
open Go.RowKit Go.Proofs.YtknchioabngbiaaW.PrintWords Go.Proofs.YtknchioabngbiaaW.PrintLast Go.Proofs.YtknchioabngbiaaW.PrintMore
attribute [local go_sem] max2_int min2_int max_two min_two max_three min_three max_four min_four   -- for this text's walks alone
set_option linter.unusedVariables false
set_option linter.unusedSimpArgs false

/-! slices.CompactFunc of slices of ints with slices.Equal -/
section
variable {w : World} {base : Nat} {ok : Nat → Prop} {v : Value} {n : Nat}
def keyE (x : RowE w base ok v n) : List Int := x.1.2
theorem sliceE (x : RowE w base ok v n) : ∃ A c, encE x = .slice A n c := by
  obtain ⟨A, c, e⟩ := Kd.R_slice x.2.1
  exact ⟨A, c, by unfold encE; rw [e, x.2.2]⟩
theorem eqE_calls (hn2 : n < 1000) (x y : RowE w base ok v n) {Ax Ay : Option Addr} {cx cy : Nat} (ex : encE x = .slice Ax n cx) (ey : encE y = .slice Ay n cy) (W : World) (hm : ∀ k, some k ≠ v.ownBlock → k < w.heap.size → W.heap[k]? = w.heap[k]?) :
    Calls Try.prog 11 #[.slice Ax n cx, .slice Ay n cy] W fun e w' => e = .returned (.bool (decide (keyE x = keyE y))) ∧ ∃ q, w' = W.drewN q := by
  obtain ⟨⟨vx, lx⟩, hx1, hx2⟩ := x
  obtain ⟨⟨vy, ly⟩, hy1, hy2⟩ := y
  simp only [encE] at ex ey
  subst ex ey
  simp only at hx1 hx2 hy1 hy2
  obtain ⟨k, hk⟩ := Ev.rounds (g := fun k => slices_Equal_int_int.f k lx ly) (Equal_ev lx ly (by omega))
  have rx := Kd.R_reads' (Kd.R_step (w1 := W) hx1 (fun k hk hl => hm k hk.2 hl))
  have ry := Kd.R_reads' (Kd.R_step (w1 := W) hy1 (fun k hk hl => hm k hk.2 hl))
  have hc := slices_Equal_int_int.calls k Ax cx lx Ay cy ly _ W rx.2.2 (by rw [← rx.1]; exact rx.2.1) ry.2.2 (by rw [← ry.1]; exact ry.2.1) hk
  rw [hx2, hy2] at hc
  exact hc.mono (fun e w' h => ⟨h.1, h.2.out⟩)
/-- behind m elements: kk are kept -/
structure CompK (d : Array (RowE w base ok v n)) (m kk : Nat) (dk : Array (RowE w base ok v n)) [Inhabited (RowE w base ok v n)] : Prop where
  size : dk.size = d.size
  lt : kk < m
  low : dk.toList.take kk = ddTo keyE (d.toList.take m)
  high : ∀ j, m ≤ j + 1 → dk[j]! = d[j]!
variable [Inhabited (RowE w base ok v n)]
theorem take_snoc (d : Array (RowE w base ok v n)) {m : Nat} (hm : m < d.size) : d.toList.take (m + 1) = d.toList.take m ++ [d[m]!] := by
  rw [List.take_add_one, Array.getElem?_toList, Array.getElem?_eq_getElem hm, getElem!_pos d m hm]; rfl
theorem dd_last (d : Array (RowE w base ok v n)) {m : Nat} (h1 : 1 ≤ m) (hm : m ≤ d.size) : (ddTo keyE (d.toList.take m)).getLast?.map keyE = some (keyE d[m - 1]!) := by
  obtain ⟨k, rfl⟩ : ∃ k, m = k + 1 := ⟨m - 1, by omega⟩
  rw [take_snoc d (by omega), ddTo_last]; rfl
theorem dd_skip (d : Array (RowE w base ok v n)) {m : Nat} (h1 : 1 ≤ m) (hm : m < d.size) (he : keyE d[m]! = keyE d[m - 1]!) : ddTo keyE (d.toList.take (m + 1)) = ddTo keyE (d.toList.take m) := by
  rw [take_snoc d hm, ddTo_snoc, dd_last d h1 (by omega), if_pos (by rw [he])]
theorem dd_keep (d : Array (RowE w base ok v n)) {m : Nat} (h1 : 1 ≤ m) (hm : m < d.size) (he : keyE d[m]! ≠ keyE d[m - 1]!) : ddTo keyE (d.toList.take (m + 1)) = ddTo keyE (d.toList.take m) ++ [d[m]!] := by
  rw [take_snoc d hm, ddTo_snoc, dd_last d h1 (by omega), if_neg (fun e => he (Option.some.inj e).symm)]
theorem CompK.start {d : Array (RowE w base ok v n)} {k : Nat} (h1 : 1 ≤ k) (hk : k < d.size) (hall : ddTo keyE (d.toList.take k) = d.toList.take k) (he : keyE d[k]! = keyE d[k - 1]!) : CompK d (k + 1) k d :=
  ⟨rfl, by omega, by rw [dd_skip d h1 hk he, hall], fun _ _ => rfl⟩
theorem CompK.skip {d dk : Array (RowE w base ok v n)} {m kk : Nat} (h : CompK d m kk dk) (hm : m < d.size) (he : keyE d[m]! = keyE d[m - 1]!) : CompK d (m + 1) kk dk :=
  ⟨h.size, by have := h.lt; omega, by rw [h.low, dd_skip d (by have := h.lt; omega) hm he], fun j hj => h.high j (by omega)⟩
theorem CompK.keep {d dk : Array (RowE w base ok v n)} {m kk : Nat} (h : CompK d m kk dk) (hm : m < d.size) (he : keyE d[m]! ≠ keyE d[m - 1]!) : CompK d (m + 1) (kk + 1) (dk.setIfInBounds kk d[m]!) := by
  have hlt := h.lt
  have hsz := h.size
  refine ⟨by simp [hsz], by omega, ?_, fun j hj => ?_⟩
  · rw [dd_keep d (by omega) hm he, ← h.low, Array.toList_setIfInBounds, List.take_add_one, List.getElem?_set_self (by simp; omega), List.take_set_of_le (Nat.le_refl _)]
    rfl
  · by_cases hjs : j < dk.size
    · rw [getElem!_pos _ j (by simpa using hjs), Array.getElem_setIfInBounds hjs, if_neg (by omega), ← getElem!_pos dk j hjs]
      exact h.high j (by omega)
    · have e1 : (dk.setIfInBounds kk d[m]!)[j]! = default := getElem!_neg _ j (by simpa using hjs)
      have e2 : d[j]! = default := getElem!_neg _ j (by omega)
      rw [e1, e2]
end
theorem run_row {α : Type} [Inhabited α] (enc : α → Value) {w : World} {g : Nat} {cur : Array Value} {e : TypeId} (hgg : w.heap[g]? = some (.cells cur e (0, 0))) (q : Nat) (dk : Array α) :
    w.grownBy (Go.Sort.putRow enc (Go.Sort.ahead w q) g 0 dk) (some g) ∧ (Go.Sort.putRow enc (Go.Sort.ahead w q) g 0 dk).heap[g]? = some (.cells (Go.Sort.putCells enc 0 dk cur) e (0, 0)) :=
  sorted_world enc w q g dk #[] cur e (0, 0) hgg _ (by rw [Go.Sort.grow_empty])
theorem dd_one {w : World} {base : Nat} {ok : Nat → Prop} {v : Value} {n : Nat} [Inhabited (RowE w base ok v n)] (d : Array (RowE w base ok v n)) (h : 0 < d.size) : ddTo keyE (d.toList.take 1) = d.toList.take 1 := by
  rw [take_snoc d h]; simp [ddTo]
/-- what is left makes the result -/
theorem comp_end {w w' : World} {base : Nat} {ok : Nat → Prop} {n g cap kk : Nat} {xs : List (List Int)} (d0 L : List (RowE w base ok (.slice (some ⟨g, 0, none⟩) xs.length cap) n)) (hd2 : d0.map (fun x => x.1.2) = xs) (hL : L = ddTo keyE d0) (hkk : L.length = kk) (hok : ok g) (hbg : base ≤ g) (hkc : kk ≤ cap) (hcm : cap ≤ maxLen)
    (hcs : ∃ cs : Array Value, w'.heap[g]? = some (.cells cs 27 (0, 0)) ∧ cs.size = cap * 1 ∧ cs.toList.take kk = L.map encE) (hg : w.grownBy w' (some g)) :
    kL.R 27 w' base ok (.slice (some ⟨g, 0, none⟩) kk cap) (ddTo id xs) := by
  obtain ⟨cs, hc1, hc2, hc3⟩ := hcs
  have hmap : L.map (fun x => x.1.2) = ddTo id xs := by
    rw [hL, ← hd2]; exact ddTo_map keyE d0
  have hl : (ddTo id xs).length = kk := by rw [← hmap, List.length_map]; exact hkk
  refine ⟨fun k hk => by cases hk; exact hok, L.map encE, ?_, ?_⟩
  · rw [hl]
    refine ⟨by rw [List.length_map, hkk]; exact (Nat.mul_one _).symm, .inr ⟨g, cap, cs, rfl, hbg, hc1, hkc, hcm, hc2, ?_⟩⟩
    show List.take (kk * 1) _ = _
    rw [Nat.mul_one]; exact hc3
  · rw [← hmap]
    exact reps_back (v := .slice (some ⟨g, 0, none⟩) xs.length cap) (fun k hk hl => hg.block k hl hk) L
set_option maxHeartbeats 8000000 in
set_option maxRecDepth 100000 in
theorem compRows_calls (w : World) (base : Nat) (ok : Nat → Prop) (v : Value) (n : Nat) (xs : List (List Int)) (hn : ∀ x ∈ xs, x.length = n) (hn2 : n < 1000) (hx : 0 < xs.length) (hx2 : xs.length < 100000)
    (h : kL.R 27 w base ok v xs) :
    Calls Try.prog 47 #[v, .func (.func 11) #[] #[]] w fun e w' => ∃ v', e = .returned v' ∧ kL.R 27 w' base ok v' (ddTo id xs) ∧ w.grownBy w' v.ownBlock := by
  obtain ⟨h0, inner, ho, hr⟩ := h
  rcases ho.2 with ⟨rfl, hz⟩ | ⟨g, cap, cur, rfl, hbg, hgg, hnc, hcm, hcs, htk⟩
  · omega
  obtain ⟨d0, hd1, hd2⟩ := reps_E (n := n) xs inner hr hn
  have hdl : d0.length = xs.length := by
    have := congrArg List.length hd2
    rw [List.length_map] at this; exact this
  haveI : Inhabited (RowE w base ok (.slice (some ⟨g, 0, none⟩) xs.length cap) n) := ⟨d0[0]'(by omega)⟩
  have hcs1 : cur.size = cap * 1 := hcs
  have htk1 : cur.toList.take (xs.length * 1) = inner := htk
  have hH0 := own_holdsE encE (l0 := d0) hgg (by omega) hcs (by rw [hdl, hd1]; exact htk)
  obtain ⟨d, hd⟩ : ∃ d, d0.toArray = d := ⟨_, rfl⟩
  rw [hd] at hH0
  have hds : d.size = xs.length := by rw [← hd]; simp [hdl]
  have hdt : d.toList = d0 := by rw [← hd]
  have hgl : g < w.heap.size := (Array.getElem?_eq_some_iff.1 hgg).1
  have hokg : ok g := h0 g rfl
  have HEQ := Aside0.mk (fun (x y : RowE w base ok (.slice (some ⟨g, 0, none⟩) xs.length cap) n) (Ax Ay : Option Addr) (cx cy : Nat) (ex : encE x = .slice Ax n cx) (ey : encE y = .slice Ay n cy) W (hW : w.grownBy W (some g)) => eqE_calls hn2 x y ex ey W (fun k hk hl => hW.block k hl hk))
  suffices HS : ∀ o : Nat, o = 0 → Calls Try.prog 47 #[.slice (some ⟨g, o, none⟩) xs.length cap, .func (.func 11) #[] #[]] w fun e w' => ∃ kk, e = .returned (.slice (some ⟨g, o, none⟩) kk cap) ∧ kL.R 27 w' base ok (.slice (some ⟨g, 0, none⟩) kk cap) (ddTo id xs) ∧ w.grownBy w' (some g) by
    refine (HS 0 rfl).mono ?_
    rintro e w' ⟨kk, rfl, h1, h2⟩
    exact ⟨_, rfl, h1, h2⟩
  intro o hO
  have HHOLD := Aside0.mk (show ∀ q (dk : Array (RowE w base ok (.slice (some ⟨g, 0, none⟩) xs.length cap) n)), dk.size = xs.length → ∀ j, j < xs.length → (Go.Sort.putRow encE (Go.Sort.ahead w q) g o dk).cell? ⟨g, o + j, none⟩ = some (encE dk[j]!) ∧ (Go.Sort.putRow encE (Go.Sort.ahead w q) g o dk).frozen? ⟨g, o + j, none⟩ = false from fun q dk hs j hj => by
    subst hO
    exact Go.Sort.holds_putRow encE _ g 0 d dk (Go.Sort.holds_ahead encE w q g 0 d hH0) (hs.trans hds.symm) j (by omega))
  have HRUN := Aside0.mk (show ∀ q (dk : Array (RowE w base ok (.slice (some ⟨g, 0, none⟩) xs.length cap) n)), w.grownBy (Go.Sort.putRow encE (Go.Sort.ahead w q) g o dk) (some g) ∧ (Go.Sort.putRow encE (Go.Sort.ahead w q) g o dk).heap[g]? = some (.cells (Go.Sort.putCells encE 0 dk cur) 27 (0, 0)) from fun q dk => by subst hO; exact run_row encE hgg q dk)
  have HDREW := Aside0.mk (fun q => grown_of_below (pw_below_drewN (Below.refl w.heap.size w) q) (some g))
  have HSELF := Aside0.mk (show ∀ q, w.drewN q = Go.Sort.putRow encE (Go.Sort.ahead w q) g o d from fun q => by subst hO; exact (Go.Sort.putRow_self encE (Go.Sort.ahead w q) g 0 d (Go.Sort.holds_ahead encE w q g 0 d hH0)).symm)
  have HO := Aside0.mk hO
  -- the end where nothing was dropped
  have HA := Aside0.mk (show ∀ q, ddTo keyE (d.toList.take xs.length) = d.toList.take xs.length → kL.R 27 (w.drewN q) base ok (.slice (some ⟨g, 0, none⟩) xs.length cap) (ddTo id xs) ∧ w.grownBy (w.drewN q) (some g) from fun q hall => by
    rw [List.take_of_length_le (by rw [Array.length_toList]; omega), hdt] at hall
    refine ⟨comp_end d0 d0 hd2 hall.symm hdl hokg hbg hnc hcm ⟨cur, hgg, hcs1, ?_⟩ (HDREW.out q), HDREW.out q⟩
    rw [hd1, ← htk1, Nat.mul_one])
  -- the end where some were
  have HBE := Aside0.mk (show ∀ q kk (dk : Array (RowE w base ok (.slice (some ⟨g, 0, none⟩) xs.length cap) n)), CompK d xs.length kk dk → kL.R 27 ((Go.Sort.putRow encE (Go.Sort.ahead w q) g o dk).setCells g (o + kk) (List.replicate (xs.length - kk) (.slice none 0 0))) base ok (.slice (some ⟨g, 0, none⟩) kk cap) (ddTo id xs) ∧ w.grownBy ((Go.Sort.putRow encE (Go.Sort.ahead w q) g o dk).setCells g (o + kk) (List.replicate (xs.length - kk) (.slice none 0 0))) (some g) from fun q kk dk hI => by
    subst hO
    have hlt := hI.lt
    have hsz := hI.size
    have hlow := hI.low
    rw [List.take_of_length_le (l := d.toList) (by rw [Array.length_toList]; omega), hdt] at hlow
    obtain ⟨hg1, hb1⟩ := HRUN.out q dk
    obtain ⟨s1, s2, s3, s4⟩ := setCells_same g (List.replicate (xs.length - kk) (.slice none 0 0)) (0 + kk) (Go.Sort.putRow encE (Go.Sort.ahead w q) g 0 dk)
    have hpc : (Go.Sort.putCells encE 0 dk cur).size = cap * 1 := by simp [Go.Sort.putCells, hcs1]
    obtain ⟨cur', c1, c2, c3⟩ := setCells_row (List.replicate (xs.length - kk) (.slice none 0 0)) (0 + kk) _ _ hb1 (by rw [List.length_replicate, hpc]; omega)
    have hg2 : w.grownBy ((Go.Sort.putRow encE (Go.Sort.ahead w q) g 0 dk).setCells g (0 + kk) (List.replicate (xs.length - kk) (.slice none 0 0))) (some g) :=
      ⟨s1.trans hg1.1, s2.trans hg1.2, s3.trans hg1.3, by rw [s4]; exact hg1.size, fun k hk hne => (setCells_far _ _ k (fun e => hne (by rw [e]))).trans (hg1.block k hk hne)⟩
    refine ⟨comp_end d0 (dk.toList.take kk) hd2 hlow (by rw [List.length_take, Array.length_toList]; omega) hokg hbg (by omega) hcm ⟨cur', c1, c2.trans hpc, ?_⟩ hg2, hg2⟩
    have hp := putCells_take encE dk cur (by omega)
    rw [c3, Nat.zero_add, List.append_assoc, List.take_append_of_le_length (by rw [List.length_take, Array.length_toList, hpc]; omega), List.take_take, Nat.min_self, List.map_take, ← hp, List.take_take, Nat.min_eq_left (by omega)])
  have HDONE := Aside0.mk (dd_one d (by omega))
  have HDS := Aside0.mk hds
  have hxz : (xs.length : Int) < 100000 := by omega
  clear hH0 hd1 hd2 hdt hdl hcs1 htk1 hr ho h0 htk hcs hgg hd hn hbg hcm hokg hds hO
  by_cases h2 : xs.length < 2
  · have h2z : (xs.length : Int) < 2 := by omega
    have h1 : xs.length = 1 := by omega
    go_enter Try.func47, Try.ntmps47
    go_wp2
    go_ret
    have := HA.out 0 (by rw [h1]; exact HDONE.out)
    exact ⟨_, rfl, this⟩
  · have h2z : ¬ (xs.length : Int) < 2 := by omega
    go_enter Try.func47, Try.ntmps47
    go_wp2
    go_loopg [5] xs.length (fun gg s5 wr => ∃ k q : Nat, s5 = .int .i64 k ∧ 1 ≤ k ∧ k ≤ xs.length ∧ Aside0 (k + gg = xs.length + 1) ∧ wr = w.drewN q ∧ Aside0 (ddTo keyE (d.toList.take k) = d.toList.take k))
    case atStart => exact ⟨1, 0, rfl, by omega, by omega, ⟨by omega⟩, rfl, HDONE⟩
    case round =>
      obtain ⟨k, q, rfl, hk1, hk, HG, rfl, HALL⟩ := hrel
      by_cases hlt : k < xs.length
      · have hltz : (k : Int) < (xs.length : Int) := by omega
        obtain ⟨p, hp⟩ : ∃ p, k - 1 = p := ⟨_, rfl⟩
        have hwp : IntKind.i64.wrap ((k : Int) - 1) = (p : Int) := by rw [i64_id (by omega) (by omega)]; omega
        have hwp2 : wrap64 ((k : Int) - 1) = (p : Int) := by rw [wrap_id (by omega) (by omega)]; omega
        have hpz : (p : Int) < (xs.length : Int) := by omega
        obtain ⟨x, hx9⟩ : ∃ x, d[k]! = x := ⟨_, rfl⟩
        obtain ⟨y, hy9⟩ : ∃ y, d[p]! = y := ⟨_, rfl⟩
        obtain ⟨Ax, cx, ex⟩ := sliceE x
        obtain ⟨Ay, cy, ey⟩ := sliceE y
        obtain ⟨W, hW⟩ : ∃ W, w.drewN q = W := ⟨_, rfl⟩
        have c1 := (HHOLD.out q d HDS.out k hlt).1
        have c0 := (HHOLD.out q d HDS.out p (by omega)).1
        rw [← HSELF.out q, hx9, ex, hW] at c1
        rw [← HSELF.out q, hy9, ey, hW] at c0
        rw [hW]
        have HC := Aside0.mk (fun q2 => HEQ.out x y Ax Ay cx cy ex ey (W.drewN q2) (by rw [← hW, World.drewN_drewN]; exact HDREW.out (q + q2)))
        have HXY := Aside0.mk (And.intro hx9 hy9)
        have HW := Aside0.mk hW
        have HP := Aside0.mk hp
        clear ex ey hx9 hy9 hW hp
        by_cases hdup : keyE x = keyE y
        · rw [decide_eq_true hdup] at HC
          have HDUP := Aside0.mk hdup
          clear hdup
          go_wp2_with fail
          go_quiet ((go_at_call 11; exact Calls.quiet_of (HC.out _)))
          clear c1 c0
          go_wp2
          have HST := Aside0.mk (show W.drewN nq = Go.Sort.putRow encE (Go.Sort.ahead w (q + nq)) g o d from by rw [← HW.out, World.drewN_drewN]; exact HSELF.out _)
          have HI0 := Aside0.mk (CompK.start hk1 (by rw [HDS.out]; exact hlt) HALL.out (by rw [HP.out, HXY.out.1, HXY.out.2]; exact HDUP.out))
          go_loopg [5, 7] xs.length (fun gg s5 s7 wr => ∃ (kk k2 q2 : Nat) (dk : Array (RowE w base ok (.slice (some ⟨g, 0, none⟩) xs.length cap) n)), s5 = .int .i64 kk ∧ s7 = .int .i64 k2 ∧ 1 ≤ k2 ∧ k + k2 ≤ xs.length ∧ Aside0 (k2 + gg = xs.length + 1) ∧ Aside0 (wr = Go.Sort.putRow encE (Go.Sort.ahead w q2) g o dk) ∧ Aside0 (CompK d (k + k2) kk dk))
          case atStart => exact ⟨k, 1, q + nq, d, rfl, rfl, Nat.le_refl _, by omega, ⟨by omega⟩, HST, HI0⟩
          case round =>
            clear HST HI0
            obtain ⟨kk, k2, q2, dk, rfl, rfl, h1, hle, HG2, HWR, HI⟩ := hrel
            have hkk := HI.out.lt
            have hds2 := HI.out.size
            have hkkN : kk < xs.length := by omega
            have hkkz : (kk : Int) < (xs.length : Int) := by omega
            by_cases hlt2 : k + k2 < xs.length
            · have hlt2z : (k2 : Int) < ((xs.length - k : Nat) : Int) := by omega
              obtain ⟨p2, hp2⟩ : ∃ p2, k2 - 1 = p2 := ⟨_, rfl⟩
              have hwp3 : IntKind.i64.wrap ((k2 : Int) - 1) = (p2 : Int) := by rw [i64_id (by omega) (by omega)]; omega
              have hwp4 : wrap64 ((k2 : Int) - 1) = (p2 : Int) := by rw [wrap_id (by omega) (by omega)]; omega
              have hpz2 : (p2 : Int) < ((xs.length - k : Nat) : Int) := by omega
              obtain ⟨u, hu9⟩ : ∃ u, d[k + k2]! = u := ⟨_, rfl⟩
              obtain ⟨z, hz9⟩ : ∃ z, d[k + p2]! = z := ⟨_, rfl⟩
              obtain ⟨Au, cu, eu⟩ := sliceE u
              obtain ⟨Az, cz, ez⟩ := sliceE z
              obtain ⟨old, hold⟩ : ∃ old, encE dk[kk]! = old := ⟨_, rfl⟩
              have cm := (HHOLD.out q2 dk (hds2.trans HDS.out) (k + k2) hlt2).1
              have cp := (HHOLD.out q2 dk (hds2.trans HDS.out) (k + p2) (by omega)).1
              have ck := HHOLD.out q2 dk (hds2.trans HDS.out) kk hkkN
              rw [← HWR.out, HI.out.high _ (by omega), hu9, eu, ← Nat.add_assoc] at cm
              rw [← HWR.out, HI.out.high _ (by omega), hz9, ez, ← Nat.add_assoc] at cp
              rw [← HWR.out, hold] at ck
              obtain ⟨ck, fk⟩ := ck
              have HC2 := Aside0.mk (fun q3 => HEQ.out u z Au Az cu cz eu ez (wr.drewN q3) (by rw [HWR.out, putRow_drewN]; exact (HRUN.out (q2 + q3) dk).1))
              have HUZ := Aside0.mk (And.intro hu9 (And.intro hz9 eu))
              have HP2 := Aside0.mk hp2
              clear eu ez hu9 hz9 hp2 hold hds2 hkk
              by_cases huz : keyE u = keyE z
              · rw [decide_eq_true huz] at HC2
                have HDUP2 := Aside0.mk huz
                clear huz
                go_wp2_with fail
                go_quiet ((go_at_call 11; exact Calls.quiet_of (HC2.out _)))
                clear cm cp ck fk
                go_wp2
                go_roundg (gk - 1)
                case measure => have := HG2.out; omega
                case rel => exact ⟨kk, k2 + 1, q2 + nq, dk, rfl, by go_num, by omega, by omega, ⟨by have := HG2.out; omega⟩, ⟨by rw [HWR.out, putRow_drewN]⟩, ⟨HI.out.skip (by rw [HDS.out]; exact hlt2) (by rw [HUZ.out.1, show k + k2 - 1 = k + p2 by have := HP2.out; omega, HUZ.out.2.1]; exact HDUP2.out)⟩⟩
              · rw [decide_eq_false huz] at HC2
                have HDUP2 := Aside0.mk huz
                clear huz
                go_wp2_with fail
                go_quiet ((go_at_call 11; exact Calls.quiet_of (HC2.out _)))
                go_wp2
                go_roundg (gk - 1)
                case measure => have := HG2.out; omega
                case rel =>
                  refine ⟨kk + 1, k2 + 1, q2 + nq, dk.setIfInBounds kk u, by go_num, by go_num, by omega, by omega, ⟨by have := HG2.out; omega⟩, ⟨?_⟩, ⟨?_⟩⟩
                  · rw [HWR.out, putRow_drewN, ← HUZ.out.2.2, Go.Sort.putRow_set encE _ g o dk kk u (by rw [HI.out.size, HDS.out]; exact hkkN)]
                  · have := HI.out.keep (by rw [HDS.out]; exact hlt2) (by rw [HUZ.out.1, show k + k2 - 1 = k + p2 by have := HP2.out; omega, HUZ.out.2.1]; exact HDUP2.out)
                    rwa [HUZ.out.1] at this
            · have hlt2z : ¬ (k2 : Int) < ((xs.length - k : Nat) : Int) := by omega
              have hend : k + k2 = xs.length := by omega
              have hcl : ∀ ty, (Builtin.clear_ #[30] ty #[.slice (some ⟨g, o + kk, none⟩) (xs.length - kk) (cap - kk)]).run Try.prog wr = .ok (.tuple #[]) (wr.setCells g (o + kk) (List.replicate (xs.length - kk) (.slice none 0 0))) :=
                fun ty => Lib.run_clear_slice wr _ _ ty _ Try.underlying30 Try.zeroValue27 rfl rfl g (o + kk) _ _ (by omega) (fun j hj => by rw [HWR.out, Nat.add_assoc, (HHOLD.out q2 dk (hds2.trans HDS.out) (kk + j) (by omega)).1]; rfl) (fun j hj => by rw [HWR.out, Nat.add_assoc]; exact (HHOLD.out q2 dk (hds2.trans HDS.out) (kk + j) (by omega)).2)
              clear hkk hds2
              go_wp2
              go_ret
              have hI := HI.out
              rw [hend] at hI
              have := HBE.out q2 kk dk hI
              rw [← HWR.out] at this
              exact ⟨_, rfl, this⟩
        · rw [decide_eq_false hdup] at HC
          have HDUP := Aside0.mk hdup
          clear hdup
          go_wp2_with fail
          go_quiet ((go_at_call 11; exact Calls.quiet_of (HC.out _)))
          clear c1 c0
          go_wp2
          go_roundg (gk - 1)
          case measure => have := HG.out; omega
          case rel =>
            refine ⟨k + 1, q + nq, by go_num, by omega, by omega, ⟨by have := HG.out; omega⟩, by rw [← HW.out, World.drewN_drewN], ⟨?_⟩⟩
            rw [dd_keep d hk1 (by rw [HDS.out]; exact hlt) (by rw [HP.out, HXY.out.1, HXY.out.2]; exact HDUP.out), HALL.out, ← take_snoc d (by rw [HDS.out]; exact hlt)]
      · have hltz : ¬ (k : Int) < (xs.length : Int) := by omega
        have he : k = xs.length := by omega
        go_wp2
        go_ret
        have := HA.out q (by rw [← he]; exact HALL.out)
        exact ⟨_, rfl, this⟩

end Go.Proofs.Ytknchioabngbiaa.P
namespace Go.Proofs.Ytknchioabngbiaa.P
open Go.RowKit Go.Proofs.YtknchioabngbiaaW.PrintWords Go.Proofs.YtknchioabngbiaaW.PrintLast Go.Proofs.YtknchioabngbiaaW.PrintMore
attribute [local go_sem] max2_int min2_int max_two min_two max_three min_three max_four min_four   -- for this text's walks alone
set_option linter.unusedVariables false
set_option linter.unusedSimpArgs false

attribute [local go_sem] Oper.semAt_some
/-! rows.piece.forms: all forms; the tones of each lie in a row of its own -/
def FormEncR (base : Nat) (n : Int) (l : List Int) (x : Nat × Nat) (W : World) (vals : Array Value) : Prop :=
  ∃ A c, vals = #[.agg #[.int .i64 (x.1 : Int), .int .i64 (x.2 : Int), .slice A (formOf n x.1 x.2 l).length c]] ∧ Kd.R (Kd.int .i64) 3 W base (fun _ => True) (.slice A (formOf n x.1 x.2 l).length c) (formOf n x.1 x.2 l)
set_option maxHeartbeats 4000000 in
set_option maxRecDepth 100000 in
theorem forms_seqR (X : Nat → Obj → Prop) (n : Nat) (hn : 1 ≤ n) (hn2 : n ≤ 62) (A : Option Addr) (c : Nat) (xs : List Int) (hxl : xs.length < 1000) (hxr : ∀ x ∈ xs, 0 ≤ x ∧ x < 62) (hc : xs.length ≤ c) (w : World) (hX : ∀ b cs, X b (.cells cs 68) → b < w.heap.size)
    (hC : ∀ W, KpC X w W → Kd.C (Kd.int .i64) W A xs.length xs) :
    SeqFs Fence.wide 2 Try.prog 40 #[.agg #[.int .i64 (n : Int), .slice A xs.length c]] #[] (FormEncR w.heap.size n xs) (formPairs n) GrowSt (KpC X) w := by
  intro l J Jx W hW hJ hJx hY h0
  have HC := Aside0.mk hC
  have HN := Aside0.mk hn
  have HXX := Aside0.mk hX
  have HW := Aside0.mk hW
  have HXL := Aside0.mk hxl
  have HXR := Aside0.mk hxr
  have HCC := Aside0.mk hc
  have HN2 := Aside0.mk hn2
  clear hn hX hW hC hxl hxr hc hn2
  simp only [List.push_toArray, List.append_toArray, List.nil_append, List.cons_append]
  refine callsIn_of_wp Try.func40 rfl trivial ?_ rfl
  simp only [Try.ntmps40, List.size_toArray, List.length_cons, List.length_nil, Nat.reduceAdd, Nat.reduceSub, Array.replicate_succ, Array.replicate_zero, List.push_toArray, List.append_toArray, List.nil_append, List.cons_append]
  gi_wp2
  obtain ⟨PB, hPB⟩ : ∃ PB, PB = W.heap.size := ⟨_, rfl⟩
  obtain ⟨W0, hW0⟩ : ∃ W0, W.alloc (.cells #[.int .i64 (n : Int), .slice A xs.length c] 68) = W0 := ⟨_, rfl⟩
  rw [hW0, ← hPB]
  have b0 : W0.heap[PB]? = some (.cells #[.int .i64 (n : Int), .slice A xs.length c] 68) := by rw [← hW0, hPB]; exact World.alloc_heap_new W _
  have g0 : W.grownBy W0 none := by rw [← hW0]; exact World.grownBy_alloc W _ none
  have hwW : w.grownBy W none := grown_of_below HW.out none
  have k0 : KpC X w W0 := (KpC.of_grown hwW).trans (KpC.of_grown g0)
  have hXP : Aside0 (∀ cs, ¬ X PB (.cells cs 68)) := ⟨fun cs h => by have := HXX.out _ _ h; have := HW.out.size; omega⟩
  have HJ0 := Aside0.mk (hJ _ _ _ h0 g0)
  have B0 := Aside0.mk b0
  have K0 := Aside0.mk k0
  have HJ := Aside0.mk hJ
  have HY := Aside0.mk hY
  clear hW0 hPB b0 g0 hwW k0 hJ h0 hY hJx
  gi_loopw [6] (fun p wr => ∃ kind : Nat, p = .int .i64 (kind : Int) ∧ kind ≤ 4 ∧ Aside0 (J (pairsTo n kind 0) wr) ∧ Aside0 (KpC X w wr) ∧ Aside0 (wr.heap[PB]? = some (.cells #[.int .i64 (n : Int), .slice A xs.length c] 68)))
    (fun p wr => 4 - (intO p).toNat)
  case atStart => exact ⟨0, rfl, by omega, HJ0, K0, B0⟩
  case round =>
    clear HJ0 K0 B0
    obtain ⟨kind, rfl, h4, HJ1, K1, B0⟩ := hrel
    rcases Nat.lt_or_eq_of_le h4 with hlt | rfl
    · have hz : (kind : Int) < 4 := by omega
      have b0 := (two_cells B0.out).1
      have H4 := Aside0.mk hlt
      clear h4
      gi_wp2
      gi_loopw [11] (fun p wr => ∃ k : Nat, p = .int .i64 (k : Int) ∧ k ≤ n ∧ Aside0 (J (pairsTo n kind k) wr) ∧ Aside0 (KpC X w wr) ∧ Aside0 (wr.heap[PB]? = some (.cells #[.int .i64 (n : Int), .slice A xs.length c] 68)))
        (fun p wr => n - (intO p).toNat)
      case atStart => exact ⟨0, rfl, by omega, HJ1, K1, B0⟩
      case round =>
        clear HJ1 K1 B0 b0
        obtain ⟨k, rfl, hkn, HJ1, K1, B0⟩ := hrel
        rcases Nat.lt_or_eq_of_le hkn with hkl | rfl
        · have hkz : (k : Int) < (n : Int) := by omega
          have HKL := Aside0.mk hkl
          have b0 := (two_cells B0.out).1
          have b1 := (two_cells B0.out).2
          clear hkn

          obtain ⟨kf, hkf⟩ := Ev.rounds (g := fun q => rows_piece_form.f q (n : Int) xs kind k) (pieceForm_ev n HN.out HN2.out kind k (by omega) (by have := H4.out; omega) xs (by have := HXL.out; omega) HXR.out)
          have HF := Aside0.mk (rows_piece_form.calls kf (n : Int) A c xs kind k _ wr (HC.out wr K1.out) HCC.out hkf)
          obtain ⟨rest, hrest⟩ := formPairs_split (n := n) H4.out hkl
          have HRS := Aside0.mk hrest
          clear hrest hkf hkl
          gi_wp2_with (refine ⟨trivial, ?_⟩; gi_at_call 42; refine (callsIn_wide.2 HF.out).mono ?_; rintro e w2 ⟨v0, rfl, ho, hb⟩; obtain ⟨A2, c2, e2⟩ := Kd.R_slice ho; subst e2; have hg2 : GrowSt wr w2 := grown_of_below hb none; have K2 := Aside0.mk (K1.out.trans (KpC.of_grown hg2)); obtain ⟨fn, tmps, assign, body, hy, hR⟩ := HY.out (pairsTo n kind k) (kind, k) rest w2 _ HRS.out (HJ.out _ _ _ HJ1.out hg2) ⟨A2, c2, rfl, Kd.R_lower ho K1.out.1⟩; have HRR := Aside0.mk hR; have B20 := Aside0.mk ((KpC.of_grown (X := X) hg2).2 _ _ (hXP.out _) B0.out rfl); clear hR ho hb hg2)
          refine HRR.out.mono ?_
          rintro e w3 (⟨rfl, hJ3, hk3⟩ | ⟨rfl, hJx3⟩)
          · have HJ3 := Aside0.mk hJ3
            have K3 := Aside0.mk (K2.out.trans hk3)
            have C30 := Aside0.mk (hk3.2 _ _ (hXP.out _) B20.out rfl)
            have hkw : wrap64 ((k : Int) + 1) = (k : Int) + 1 := wrap_id (by omega) (by have := HN2.out; omega)
            clear hJ3 hk3 hy
            gi_wp2
            go_roundw
            case rel => exact ⟨k + 1, by (try rw [hkw]); go_num, HKL.out, by rw [← pairsTo_next]; exact HJ3, K3, C30⟩
            case measure => exact intO_less hkw HKL.out
          · gi_wp2
            refine bodyPost_ret (results_none rfl _ _ _) rfl ?_
            exact ⟨⟨_, rfl⟩, .inr ⟨pairsTo n kind k ++ [(kind, k)], rest, by rw [HRS.out]; simp, hJx3⟩⟩
        · gi_wp2
          go_roundw
          case rel => exact ⟨kind + 1, by go_num, H4.out, by rw [← pairsTo_kind]; exact HJ1, K1, B0⟩
          case measure => exact intO_less (by go_num) H4.out
    · gi_wp2
      go_end0
      exact ⟨⟨_, rfl⟩, .inl HJ1.out⟩

end Go.Proofs.Ytknchioabngbiaa.P
namespace Go.Proofs.Ytknchioabngbiaa.P
open Go.RowKit Go.Proofs.YtknchioabngbiaaW.PrintWords Go.Proofs.YtknchioabngbiaaW.PrintLast Go.Proofs.YtknchioabngbiaaW.PrintMore
attribute [local go_sem] max2_int min2_int max_two min_two max_three min_three max_four min_four   -- for this text's walks alone
set_option linter.unusedVariables false
set_option linter.unusedSimpArgs false

attribute [local go_sem] Oper.semAt_some
/-! rows.Forms -/
def rowsTo (l : List Int) (ps : List (Nat × Nat)) : List (List Int) := ps.map fun p => formOf l.length p.1 p.2 l
theorem rowsTo_snoc (l : List Int) (ps : List (Nat × Nat)) (p : Nat × Nat) : rowsTo l (ps ++ [p]) = rowsTo l ps ++ [formOf l.length p.1 p.2 l] := by unfold rowsTo; rw [List.map_append]; rfl
def rows_Forms.f (l0 : List Int) : Option (List (List Int) × Int) := if IsRow l0 then some (canonF l0, 0) else some ([], 2)
theorem R_ownF {α : Type} {d : Kd α} {e base : Nat} {ok : Nat → Prop} {A B : World} {v : Value} {xs : List α} {row : Option Nat} (h : d.R e A base ok v xs) (hg : A.grownBy B row) (hr : ∀ r, row = some r → ∃ o : Obj, A.heap[r]? = some o ∧ o.isCells = false) : d.R e B base ok v xs :=
  Kd.R_mono (Kd.R_move (Kd.R_bound h) (fun k hk => hg.block k hk.2.2.1 (fun e => by
    obtain ⟨o, ho, hc⟩ := hr k e.symm
    obtain ⟨q, _, cells, hcell⟩ := hk.2.2.2
    rw [hcell] at ho; cases ho; cases hc))) (fun _ h => h.1)
theorem R_kpcF {α : Type} {d : Kd α} {e base : Nat} {ok : Nat → Prop} {X : Nat → Obj → Prop} {A B : World} {v : Value} {xs : List α} (h : d.R e A base ok v xs) (hk : KpC X A B) (hx : ∀ k q cells, base ≤ k → q ∈ e :: d.E → ¬ X k (.cells cells q (0, 0))) : d.R e B base ok v xs :=
  Kd.R_mono (Kd.R_move (Kd.R_bound h) (fun k hkk => by
    obtain ⟨_, h1, _, q, hq, cells, hcell⟩ := hkk
    exact (hk.2 k _ (hx k q cells h1 hq) hcell rfl).trans hcell.symm)) (fun _ h => h.1)
theorem infoS8F : (Try.prog.info? 27).map (fun i => (i.zero, i.size, i.bytes)) = some (some (.slice none 0 0), 1, 24) := by kernel_rfl
/-- what a round leaves -/
theorem formC_step {w W w1 : World} {S : Nat} {v v' : Value} {o : Obj} {xs : List (List Int)} {y : List Int} {inner : List Value} {u : Value} (y3 : Below S w W) (y1 : BoxAt W S [v]) (y2 : kL.R 27 W (S + 1) (fun _ => True) v xs)
    (hu : Kd.R (Kd.int .i64) 3 W (S + 1) (fun _ => True) u y) (hr : Reps (kL.M (W.alloc o) (S + 1) (fun k => True ∧ some k ≠ v.ownBlock)) 1 xs inner)
    (hown : w1.ownsRow (S + 1) 27 1 v' (xs.length + 1) (inner ++ [u])) (hg : (W.alloc o).grownBy w1 v.ownBlock) (hat : v'.ownBlock = v.ownBlock ∨ ∃ b, v'.ownBlock = some b ∧ (W.alloc o).heap.size ≤ b) :
    BoxAt w1 S [v] ∧ KeepsOthers W (w1.setCell ⟨S, 0, none⟩ v') ∧ KpC (fun b o => b = S ∨ (S + 1 ≤ b ∧ ∃ cs, o = .cells cs 27)) W (w1.setCell ⟨S, 0, none⟩ v') ∧ Below S w (w1.setCell ⟨S, 0, none⟩ v') ∧
      BoxAt (w1.setCell ⟨S, 0, none⟩ v') S [v'] ∧ kL.R 27 (w1.setCell ⟨S, 0, none⟩ v') (S + 1) (fun _ => True) v' (xs ++ [y]) := by
  have g0 : W.grownBy (W.alloc o) none := World.grownBy_alloc W _ none
  have hty := Kd.R_typed y2
  have hbs := Kd.R_base y2
  have hge : ∀ k, v.ownBlock = some k → S + 1 ≤ k := hbs
  have hob : ∀ k p, v.ownBlock = some k → W.heap[k]? = some p → ∃ cs, p = .cells cs 27 := by
    intro k p e hp
    obtain ⟨cells, hc⟩ := hty k e
    rw [hc] at hp; cases hp; exact ⟨_, rfl⟩
  have hblk : ∀ b, b < W.heap.size → v.ownBlock ≠ some b → w1.heap[b]? = W.heap[b]? := fun b hb hne => (hg.block b (by have := g0.size; omega) (fun e => hne e.symm)).trans (g0.block b hb (by simp))
  have hsz : W.heap.size ≤ w1.heap.size := by have := g0.size; have := hg.size; omega
  have z1 : BoxAt w1 S [v] := y1.heap (hblk _ y1.lt (fun e => by have := hge _ e; omega))
  have hkc : KpC (fun b o => b = S ∨ (S + 1 ≤ b ∧ ∃ cs, o = .cells cs 27)) W w1 := ⟨hsz, fun b p hx hp hc => by
    refine (hblk b (Array.getElem?_eq_some_iff.1 hp).1 (fun e => hx (.inr ⟨hge b e, hob b p e hp⟩))).trans hp⟩
  have hko : KeepsOthers W w1 := (KeepsOthers.of_grownBy g0 (fun j o e => by cases e)).trans (KeepsOthers.of_grownBy hg (fun j p e hp => by
    have hj := Kd.R_lt y2 j e
    have : (W.alloc o).heap[j]? = W.heap[j]? := g0.block j hj (by simp)
    rw [this] at hp
    obtain ⟨cs, rfl⟩ := hob j p e hp; rfl))
  have hua : Kd.R (Kd.int .i64) 3 (W.alloc o) (S + 1) (fun k => True ∧ some k ≠ v.ownBlock) u y := Kd.R_grown (Kd.R_apart' hu hty (by decide)) g0 (fun k _ e => by cases e)
  have hR := Kd.R_appended (d := kL) (e := 27) (okp := fun k => True ∧ some k ≠ v.ownBlock) (fun _ _ => trivial) hr ⟨u, rfl, hua⟩ (fun k hk => hk) (fun _ _ => trivial) hown hg hat
  refine ⟨z1, hko.trans (KeepsOthers.setCell _ _ _), hkc.trans ⟨by simp [World.setCell], fun b p hx hp hc => (Below.heap_setCell _ _ _ _ (fun e => hx (.inl e))).trans hp⟩, ?_, z1.put1 _, ?_⟩
  · refine Below.setCell (p := ⟨S, 0, none⟩) ?_ (by simp) _
    exact (y3.grown g0 (by have := y1.lt; omega) (fun k e => by cases e)).grown hg (by have := y1.lt; have := g0.size; omega) (fun k e => by have := hge k e; omega)
  · exact Kd.R_mono (Kd.R_far (p := ⟨S, 0, none⟩) (Kd.R_bound hR) (fun k hk => by have := hk.2.1; simp only [ne_eq]; omega) _) (fun _ _ => trivial)
/-- rows of which no two are the same lie apart -/
theorem S_of_R {w : World} {base n : Nat} {ok : Nat → Prop} {v : Value} {xs : List (List Int)} (h : kL.R 27 w base ok v xs) (hn : ∀ x ∈ xs, x.length = n) (hd : xs.Nodup) : Kd.S kL 27 w base ok v xs := by
  obtain ⟨h0, inner, ho, hr⟩ := h
  have hl : inner.length = xs.length := by rw [hr.1]; exact Nat.mul_one _
  have key : ∀ (j : Nat) (x : List Int), xs[j]? = some x → ∃ u, inner[j]? = some u ∧ Kd.R (Kd.int .i64) 3 w base (fun k => ok k ∧ some k ≠ v.ownBlock) u x := by
    intro j x hx
    have hj : j < inner.length := by rw [hl]; exact (List.getElem?_eq_some_iff.1 hx).1
    obtain ⟨v', e, hR⟩ := hr.2 j x hx
    rw [show j * kL.sz = j from Nat.mul_one j, List.drop_eq_getElem_cons hj] at e
    have e2 : inner[j] = v' := by
      have e' : List.take 1 (inner[j] :: inner.drop (j + 1)) = [v'] := e
      simp only [List.take_succ_cons, List.take_zero, List.cons.injEq, and_true] at e'
      exact e'
    exact ⟨v', by rw [← e2]; exact List.getElem?_eq_getElem hj, hR⟩
  have same : ∀ (i j : Nat) (u u' : Value) (k : Nat), inner[i]? = some u → inner[j]? = some u' → u.ownBlock = some k → u'.ownBlock = some k → i = j := by
    intro i j u u' k hi hj hu hu'
    have hil : i < xs.length := by rw [← hl]; exact (List.getElem?_eq_some_iff.1 hi).1
    have hjl : j < xs.length := by rw [← hl]; exact (List.getElem?_eq_some_iff.1 hj).1
    obtain ⟨ui, e1, R1⟩ := key i _ (List.getElem?_eq_getElem hil)
    obtain ⟨uj, e2, R2⟩ := key j _ (List.getElem?_eq_getElem hjl)
    rw [hi] at e1; rw [hj] at e2
    cases e1; cases e2
    have o1 := Kd.own_of_R R1
    have o2 := Kd.own_of_R R2
    rcases o1.2 with ⟨rfl, _⟩ | ⟨g1, c1, cur1, rfl, _, hg1, _, _, _, ht1⟩
    · cases hu
    rcases o2.2 with ⟨rfl, _⟩ | ⟨g2, c2, cur2, rfl, _, hg2, _, _, _, ht2⟩
    · cases hu'
    have eg1 : g1 = k := Option.some.inj hu
    have eg2 : g2 = k := Option.some.inj hu'
    subst eg1; subst eg2
    rw [hg1] at hg2
    cases hg2
    rw [hn _ (List.getElem_mem hil)] at ht1
    rw [hn _ (List.getElem_mem hjl)] at ht2
    rw [ht1] at ht2
    have inj : ∀ (a b : List Int), a.map (Value.int .i64) = b.map (Value.int .i64) → a = b := by
      intro a
      induction a with
      | nil => intro b h; cases b with
        | nil => rfl
        | cons _ _ => simp at h
      | cons x a ih => intro b h; cases b with
        | nil => simp at h
        | cons y b => simp only [List.map_cons, List.cons.injEq, Value.int.injEq, true_and] at h; rw [h.1, ih b h.2]
    have hxx := inj _ _ ht2
    rw [List.Nodup, List.pairwise_iff_getElem] at hd
    rcases Nat.lt_trichotomy i j with h | h | h
    · exact absurd hxx (hd i j hil hjl h)
    · exact h
    · exact absurd hxx.symm (hd j i hjl hil h)
  refine ⟨fun k => ((List.range xs.length).find? fun j => decide ((inner[j]?.bind Value.ownBlock) = some k)).getD 0, h0, inner, by rw [List.length_zipIdx]; exact ho, by rw [List.length_zipIdx]; exact hr.1, fun j p hp => ?_⟩
  rw [List.getElem?_zipIdx, Option.map_eq_some_iff] at hp
  obtain ⟨x, hx, rfl⟩ := hp
  obtain ⟨u, hu, hR⟩ := key j x hx
  have hj : j < inner.length := (List.getElem?_eq_some_iff.1 hu).1
  have hjx : j < xs.length := by omega
  show kL.M w base (fun k => (ok k ∧ some k ≠ v.ownBlock) ∧ _ = (x, 0 + j).2) x ((inner.drop (j * 1)).take 1)
  rw [Nat.mul_one, List.drop_eq_getElem_cons hj]
  refine ⟨u, by have := (List.getElem?_eq_some_iff.1 hu).2; simp [this], ?_⟩
  have hT := Kd.R_tight rfl (Kd.R_bound hR)
  have hB := Kd.R_bound hR
  refine Kd.R_mono (ok := fun k => some k = u.ownBlock ∧ ok k ∧ some k ≠ v.ownBlock) ⟨fun k hk => ⟨hk.symm, hR.1 k hk⟩, hR.2⟩ (fun k hk => ⟨hk.2, ?_⟩)
  have hf : (List.range xs.length).find? (fun j => decide ((inner[j]?.bind Value.ownBlock) = some k)) = some j := by
    cases hfi : (List.range xs.length).find? (fun j => decide ((inner[j]?.bind Value.ownBlock) = some k)) with
    | none =>
      rw [List.find?_eq_none] at hfi
      exact absurd (by rw [hu]; exact decide_eq_true hk.1.symm) (hfi j (List.mem_range.2 hjx))
    | some i =>
      have h1 := of_decide_eq_true (List.find?_some (p := fun j => decide ((inner[j]?.bind Value.ownBlock) = some k)) hfi)
      cases hui : inner[i]? with
      | none => rw [hui] at h1; cases h1
      | some u' =>
        rw [hui] at h1
        exact congrArg some (same i j u' u k hui hu h1 hk.1.symm)
  simp only [hf, Option.getD_some, Nat.zero_add]
theorem canonF_lensC (l : List Int) : ∀ x ∈ canonF l, x.length = l.length := fun x hx => by
  obtain ⟨p, _, rfl⟩ := (mem_canonF l x).1 hx
  exact formOf_len5 _ _ _ _
theorem C_ltF {w : World} {A : Option Addr} {m : Nat} {xs : List Int} (h : Kd.C (Kd.int .i64) w A m xs) : ∀ a, A = some a → 0 < m → a.block < w.heap.size := fun a ha hm => by
  rcases Nat.lt_or_ge a.block w.heap.size with h1 | h1
  · exact h1
  · exact absurd rfl (Kd.far_C 0 h h1 a ha hm)
set_option maxHeartbeats 4000000 in
set_option maxRecDepth 100000 in
theorem rows_Forms.calls (A0 : Option Addr) (c0 : Nat) (l0 : List Int) (r1 : List (List Int)) (r2 : Int) (w : World) (hr0 : Kd.C (Kd.int .i64) w A0 l0.length l0) (hc0 : l0.length ≤ c0) (h : rows_Forms.f l0 = some (r1, r2)) :
    Calls Try.prog 21 #[.slice A0 l0.length c0] w fun e w' => ∃ v0_ : Value, e = .returned (.tuple #[v0_, .int .i64 r2]) ∧ Kd.S (Kd.slice 3 (Kd.int .i64)) 27 w' w.heap.size (fun _ => True) v0_ r1 ∧ Below w.heap.size w w' := by
  have HR0 := Aside0.mk hr0
  have HC0 := Aside0.mk hc0
  obtain ⟨kv0, hv0⟩ := Ev.rounds (g := fun k => rows_row_valid.f k l0) (valid_ev l0)
  have HV0 := Aside0.mk (fun W (hb : Below w.heap.size w W) => rows_row_valid.calls kv0 A0 c0 l0 _ W (Kd.C_below hr0 hb) hc0 hv0)
  have H := Aside0.mk h
  clear hr0 hc0 hv0 h
  refine (callsIn_wide (n := 3)).1 ?_
  refine callsIn_of_wp_marks Try.func21 rfl trivial ?_ rfl
  simp only [Try.ntmps21, List.size_toArray, List.length_cons, List.length_nil, Nat.reduceAdd, Nat.reduceSub, Array.replicate_succ, Array.replicate_zero, List.push_toArray, List.append_toArray, List.nil_append, List.cons_append]
  have HB0 : Aside0 (Below w.heap.size w w) := ⟨Below.refl _ _⟩
  by_cases hr0 : IsRow l0
  · have e0 : decide (IsRow l0) = true := decide_eq_true hr0
    rw [e0] at HV0
    gi_wp2_with (first | (refine ⟨trivial, ?_⟩; gi_at_call 38; (with_reducible refine (callsIn_wide.2 (HV0.out _ HB0.out)).mono ?_); rintro e w' ⟨rfl, ⟨q, rfl⟩⟩; clear HV0) | (refine ⟨trivial, ?_⟩; gi_at_call 39; (with_reducible refine (callsIn_wide.2 (whole_calls _ _ _ _)).mono ?_); rintro e w' ⟨rfl, hg⟩))
    have x1' : BoxAt ((w.drewN q).alloc (.cells #[.slice none 0 0] 30)) w.heap.size [.slice none 0 0] := BoxAt.new (w.drewN q) [.slice none 0 0] 30
    have hg0 : w.grownBy ((w.drewN q).alloc (.cells #[.slice none 0 0] 30)) none := grown_of_below (below_alloc (pw_below_drewN (Below.refl _ w) q) _) none
    have x1 := x1'.grown hg
    have hsz : w.heap.size + 1 ≤ w'.heap.size := by have := hg.size; simp only [World.size_alloc, World.drewN] at this; omega
    have hbw : Below w.heap.size w w' := (HB0.out.grown hg0 (Nat.le_refl _) (fun k e => by cases e)).grown hg (by have := hg.size; simp only [World.size_alloc, World.drewN] at this ⊢; omega) (fun k e => by cases e)
    have HX := Aside0.mk x1
    have HBW := Aside0.mk hbw
    have HSZ := Aside0.mk hsz
    have hC : ∀ W, KpC (fun b o => b = w.heap.size ∨ (w.heap.size + 1 ≤ b ∧ ∃ cs, o = .cells cs 27)) w' W → Kd.C (Kd.int .i64) W A0 l0.length l0 := fun W hk => C_kpc (Kd.C_below HR0.out hbw) hk (fun a o ha hm hb => by
      have := C_ltF HR0.out a ha hm
      rcases hb with e | e
      · omega
      · have := e.1; omega)
    clear hg hg0 x1' x1 hbw hsz
    refine range_fs rfl (by omega) (gf := 40) (fs := #[.agg #[.int .i64 (l0.length : Int), .slice A0 l0.length c0]]) (lb := #[]) rfl trivial (enters_of Try.func40 (by kernel_rfl) rfl)
      (forms_seqR (fun b o => b = w.heap.size ∨ (w.heap.size + 1 ≤ b ∧ ∃ cs, o = .cells cs 27)) l0.length (by have := hr0.1; omega) (by have := hr0.2.1; omega) A0 c0 l0 (by have := hr0.2.1; omega) (row_small hr0) HC0.out w' (fun b cs hb => by
        have := HSZ.out
        rcases hb with e | ⟨_, cs', e⟩
        · omega
        · cases e) hC)
      (fun x W vals hE => by obtain ⟨A, c, rfl, _⟩ := hE; rfl)
      (fun A B h => KeepsOthers.of_grownBy h (fun j o e => by cases e))
      (fun h k => h.trans k)
      (fun W l o o' hl ho hc => KpC.putObj W ho hc)
      (fun pre W => (Below w.heap.size w W ∧ ∃ v, BoxAt W w.heap.size [v] ∧ kL.R 27 W (w.heap.size + 1) (fun _ => True) v (rowsTo l0 pre)))
      (fun _ _ _ => False)
      ?hI (fun _ _ _ _ _ h _ _ => h) ?hIs (fun _ _ _ _ h _ => h) ?h0
      (fun x a' W => ∃ Bx A c, a' = { tmps := #[.slice A0 l0.length c0, undef, .slice none 0 0, .int .i64 0, .pointer (some ⟨w.heap.size, 0, none⟩), .pointer (some ⟨Bx, 0, none⟩), .slice A0 l0.length c0, .bool true, .bool false, .slice A0 l0.length c0, .agg #[.int .i64 l0.length, .slice A0 l0.length c0], .func (.func 40) #[.agg #[.int .i64 l0.length, .slice A0 l0.length c0]] #[], .agg #[.int .i64 x.1, .int .i64 x.2, .slice A (formOf l0.length x.1 x.2 l0).length c], undef, undef, undef, undef, undef, undef, undef, undef, undef], defers := [] } ∧
        BoxAt W Bx [.int .i64 x.1, .int .i64 x.2, .slice A (formOf l0.length x.1 x.2 l0).length c] ∧ Kd.R (Kd.int .i64) 3 W (w.heap.size + 1) (fun _ => True) (.slice A (formOf l0.length x.1 x.2 l0).length c) (formOf l0.length x.1 x.2 l0))
      ?hAx ?assign ?body ?done (fun _ _ _ _ _ _ _ h _ => h.elim)
    case hI =>
      rintro s A B row ⟨y3, v, y1, y2⟩ hg hr
      exact ⟨y3.grown hg y3.size (fun k e => by have := (hr k e).1; have := HBW.out.size; omega), v, y1.own hg (fun r e => (hr r e).2), R_ownF y2 hg (fun r e => (hr r e).2)⟩
    case hIs =>
      rintro s A B ⟨y3, v, y1, y2⟩ hg
      exact ⟨y3.grown hg y3.size (fun k e => by cases e), v, y1.grown hg, Kd.R_grown y2 hg (fun k _ e => by cases e)⟩
    case h0 => exact ⟨HBW.out, _, HX.out, Kd.R_nil _ _ _ _ _⟩
    case hAx =>
      rintro x a' s A B row ⟨Bx, A', c, e, hb, hC⟩ hg hr
      exact ⟨Bx, A', c, e, hb.own hg (fun r e => (hr r e).2), R_ownF hC hg (fun r e => (hr r e).2)⟩
    case assign =>
      rintro l pre x vals W K hI ⟨A, c, rfl, hCv⟩ hK
      have HK := Aside0.mk hK
      have HI := Aside0.mk hI
      have HCV := Aside0.mk hCv
      clear hK hI hCv hC
      gi_wp2
      have g1 : W.grownBy (W.alloc (.cells #[.int .i64 (x.1 : Int), .int .i64 (x.2 : Int), .slice A (formOf l0.length x.1 x.2 l0).length c] 71)) none := World.grownBy_alloc W _ none
      obtain ⟨y3, v, y1, y2⟩ := HI.out
      exact HK.out _ _ (KeepsOthers.of_grownBy g1 (fun j o e => by cases e)) (KpC.of_grown g1)
        ⟨y3.grown g1 y3.size (fun k e => by cases e), v, y1.grown g1, Kd.R_grown y2 g1 (fun k _ e => by cases e)⟩
        ⟨W.heap.size, A, c, rfl, BoxAt.new W _ _, Kd.R_grown (Kd.R_lower HCV.out HSZ.out) g1 (fun k _ e => by cases e)⟩
    case body =>
      rintro l pre x rest a' W hlw hloop hx ⟨y3, v, y1, y2⟩ ⟨Bx, A, c, rfl, hb, hCx⟩
      obtain ⟨Ao, co, rfl⟩ := Kd.R_slice y2
      have u0 := y1.cell 0 _ rfl
      have b2 := hb.cell 2 _ rfl
      have HLEN : Aside0 ((rowsTo l0 pre).length < 100) := ⟨by
        have h1 := congrArg List.length hx
        have h2 : (formPairs l0.length).length = 4 * l0.length := by simp [formPairs, pairsTo, List.range_succ]; omega
        have h3 := hr0.2.1
        unfold rowsTo
        rw [h2] at h1; simp at h1 ⊢; omega⟩
      have HY := Aside0.mk (And.intro y3 (And.intro y1 y2))
      have HCX := Aside0.mk hCx
      obtain ⟨h09, inner, hown, hrep⟩ := y2
      have HROW := Aside0.mk (own_alloc hown (.cells #[.slice A (formOf l0.length x.1 x.2 l0).length c] 27))
      have HREP := Aside0.mk (Reps.imp_ hrep (fun _ _ hp => Kd.M_below hp (below_alloc (Below.refl _ W) (.cells #[.slice A (formOf l0.length x.1 x.2 l0).length c] 27))))
      have HNC := Aside0.mk (BoxAt.new W [.slice A (formOf l0.length x.1 x.2 l0).length c] 27)
      obtain ⟨m, hm⟩ : ∃ m, (rowsTo l0 pre).length = m := ⟨_, rfl⟩
      rw [hm] at u0
      obtain ⟨fl, hfl⟩ : ∃ fl, (formOf l0.length x.1 x.2 l0).length = fl := ⟨_, rfl⟩
      rw [hfl] at b2
      have HM := Aside0.mk hm
      have HFL := Aside0.mk hfl
      rw [hm] at HROW HREP HLEN HY
      rw [hfl] at HROW HREP HNC HCX ⊢
      obtain ⟨i0, hi, hz0, hz1, hz2⟩ := info_parts infoS8F
      clear y3 y1 hb hCx h09 hown hrep hm hfl hC hx
      gi_wp2_with (gi_at_builtin; refine wpListIn_append_own_at _ rfl (.tmp 13) (.tmp 16) 30 rfl (w.heap.size + 1) 27 i0 _ 1 24 Try.underlying30 hi hz0 hz1 hz2 rfl (by decide) _ _ _ rfl HROW.out ⟨W.heap.size, 0, none⟩ 1 1 [.slice A fl c] rfl rfl (fun j u hu => by rw [add_plain]; exact HNC.out.cell j u hu) (by simp [Value.oneCell']) ?ab ?ab2 ?ab3 ?_; (case ab => have := HLEN.out; simp only [maxLen]; omega); (case ab2 => have := HLEN.out; omega); (case ab3 => have := HY.out.2.1.lt; simp only [World.size_alloc]; omega); intro v' w1 hown' hgrow hnil hat; obtain ⟨A9, c9, e9⟩ := own_slice hown'; subst e9; have hst := formC_step HY.out.1 HY.out.2.1 HY.out.2.2 HCX.out HREP.out (by rw [HM.out]; exact hown') hgrow (hat.imp_right (fun e => ⟨_, e, Nat.le_refl _⟩)); have t0 := hst.1.cell 0 _ rfl; have tf := hst.1.frozen 0; have HST := Aside0.mk hst; clear hown' hgrow hnil hst hat)
      obtain ⟨-, s1, s2, s3, s4, s5⟩ := HST.out
      refine ⟨s1, s2, s3, _, s4, ?_⟩
      rw [rowsTo_snoc]
      exact s5
    case done =>
      rintro D W hD ⟨y3, v, y1, y2⟩ hK
      have t0 := y1.cell 0 _ rfl
      have hlen : (rowsTo l0 (formPairs l0.length)).length = 4 * l0.length := by unfold rowsTo; rw [List.length_map]; simp [formPairs, pairsTo, List.range_succ]; omega
      have HS1 := Aside0.mk (sortRows_calls W (w.heap.size + 1) (fun _ => True) v l0.length (rowsTo l0 (formPairs l0.length)) (fun x hx => by obtain ⟨p, _, rfl⟩ := List.mem_map.1 hx; exact formOf_len5 _ _ _ _) (by have := hr0.2.1; omega) (by have := hr0.1; omega) (by have := hr0.2.1; omega) y2)
      have HY := Aside0.mk (And.intro y3 (And.intro y1 y2))
      have HK := Aside0.mk hK
      have HLEN := Aside0.mk hlen
      clear y3 y1 y2 hK hC hlen
      have HV := Aside0.mk (And.intro (Kd.R_typed HY.out.2.2) (Kd.R_base HY.out.2.2))
      gi_wp2_with (first | (refine ⟨trivial, ?_⟩; gi_at_call 46; (with_reducible refine (callsIn_wide.2 HS1.out).mono ?_); rintro e w2 ⟨rfl, ys, hp, hs, hR, hg⟩; have hne : ∀ k, v.ownBlock = some k → w.heap.size + 1 ≤ k := HV.out.2; have hB2 := HY.out.2.1.heap (hg.block _ HY.out.2.1.lt (fun e => by have := hne _ e.symm; omega)); have t1 := hB2.cell 0 _ rfl; have HS2 := Aside0.mk (compRows_calls w2 (w.heap.size + 1) (fun _ => True) v l0.length ys (fun x hx => by obtain ⟨p, _, rfl⟩ := List.mem_map.1 (hp.mem_iff.1 hx); exact formOf_len5 _ _ _ _) (by have := hr0.2.1; omega) (by rw [hp.length_eq, HLEN.out]; have := hr0.1; omega) (by rw [hp.length_eq, HLEN.out]; have := hr0.2.1; omega) hR); have HP := Aside0.mk (And.intro hp (And.intro hs hg)); clear hp hs hR hg hne hB2 HS1) | (refine ⟨trivial, ?_⟩; gi_at_call 47; (with_reducible refine (callsIn_wide.2 HS2.out).mono ?_); rintro e w3 ⟨v3, rfl, hR3, hg3⟩; have HR3 := Aside0.mk (And.intro hR3 hg3); clear hR3 hg3 HS2 t1))
      obtain ⟨hR3, hg3⟩ := HR3.out
      obtain ⟨hp, hs, hg⟩ := HP.out
      have hDne : some D ≠ v.ownBlock := fun e => by
        obtain ⟨cells, hc⟩ := HV.out.1 D e.symm
        rw [HK.out] at hc; cases hc
      have hDl : D < W.heap.size := (Array.getElem?_eq_some_iff.1 HK.out).1
      have hk3 : w3.heap[D]? = some (.deferred (some [])) := ((hg3.block D (Nat.lt_of_lt_of_le hDl hg.size) hDne).trans (hg.block D hDl hDne)).trans HK.out
      refine ⟨by simp, .inl ⟨_, _, rfl, run_takeDeferred hk3, ?_⟩⟩
      have h := H.out
      unfold rows_Forms.f at h
      rw [if_pos hr0] at h
      simp only [Option.some.injEq, Prod.mk.injEq] at h
      obtain ⟨rfl, rfl⟩ := h
      have hgp := grownBy_putObj' w3 D (.deferred none)
      rw [dedup_canonF l0 ys hp hs] at hR3
      have hR4 := R_ownF hR3 hgp (fun r e => by cases e; exact ⟨_, hk3, rfl⟩)
      have hSl := HY.out.2.1.lt
      have hBW : Below w.heap.size w w3 := (HY.out.1.grown hg (by omega) (fun k e => by have := HV.out.2 k e; omega)).grown hg3 (by have := hg.size; omega) (fun k e => by have := HV.out.2 k e; omega)
      refine ⟨_, results_list (rs := [.tmp 2, .tmp 3]) rfl (by simp) (.tmp (.tmp .nil)), _, rfl, Kd.S_lower (S_of_R hR4 (canonF_lensC l0) ((canonF_strict l0).imp (fun h e => by rw [e, lessL_irr] at h; cases h))) (Nat.le_succ _), ?_⟩
      exact hBW.grown hgp hBW.size (fun k e => by cases e; have := HBW.out.size; omega)
  · have e0 : decide (IsRow l0) = false := decide_eq_false hr0
    rw [e0] at HV0
    gi_wp2_with (refine ⟨trivial, ?_⟩; gi_at_call 38; (with_reducible refine (callsIn_wide.2 (HV0.out _ HB0.out)).mono ?_); rintro e w' ⟨rfl, ⟨q, rfl⟩⟩; clear HV0)
    have h := H.out
    unfold rows_Forms.f at h
    rw [if_neg hr0] at h
    simp only [Option.some.injEq, Prod.mk.injEq] at h
    obtain ⟨rfl, rfl⟩ := h
    exact ⟨_, results_list (rs := [.tmp 2, .tmp 3]) rfl (by simp) (.tmp (.tmp .nil)), _, rfl, Kd.S_nil _ _ _ _ _, pw_below_drewN HB0.out q⟩

end Go.Proofs.Ytknchioabngbiaa.P
namespace Go.Proofs.Ytknchioabngbiaa.P
open Go.RowKit Go.Proofs.YtknchioabngbiaaW.PrintWords Go.Proofs.YtknchioabngbiaaW.PrintLast Go.Proofs.YtknchioabngbiaaW.PrintMore
attribute [local go_sem] max2_int min2_int max_two min_two max_three min_three max_four min_four   -- for this text's walks alone
set_option linter.unusedVariables false
set_option linter.unusedSimpArgs false

attribute [local go_sem] Oper.semAt_some
/-! rows.Way -/
def wayOf (a b : List Int) : Option (Nat × Nat) := (formPairs a.length).find? fun p => decide (formOf a.length p.1 p.2 a = b)
def rows_Way.f (l0 l1 : List Int) : Option (Int × Int × Int) := if IsRow l0 ∧ IsRow l1 ∧ l0.length = l1.length then (match wayOf l0 l1 with | some p => some ((p.1 : Int), (p.2 : Int), 0) | none => some (0, 0, 4)) else some (0, 0, 2)
set_option maxHeartbeats 4000000 in
set_option maxRecDepth 100000 in
theorem rows_Way.calls (A0 : Option Addr) (c0 : Nat) (l0 : List Int) (A1 : Option Addr) (c1 : Nat) (l1 : List Int) (r1 r2 r3 : Int) (w : World) (hr0 : Kd.C (Kd.int .i64) w A0 l0.length l0) (hc0 : l0.length ≤ c0) (hr1 : Kd.C (Kd.int .i64) w A1 l1.length l1) (hc1 : l1.length ≤ c1) (h : rows_Way.f l0 l1 = some (r1, r2, r3)) :
    Calls Try.prog 26 #[.slice A0 l0.length c0, .slice A1 l1.length c1] w fun e w' => e = .returned (.tuple #[.agg #[.int .i64 r1, .int .i64 r2], .int .i64 r3]) ∧ Below w.heap.size w w' := by
  have HR0 := Aside0.mk hr0
  have HR1 := Aside0.mk hr1
  have HC0 := Aside0.mk hc0
  have HC1 := Aside0.mk hc1
  obtain ⟨kv0, hv0⟩ := Ev.rounds (g := fun k => rows_row_valid.f k l0) (valid_ev l0)
  obtain ⟨kv1, hv1⟩ := Ev.rounds (g := fun k => rows_row_valid.f k l1) (valid_ev l1)
  have HV0 := Aside0.mk (fun W (hb : Below w.heap.size w W) => rows_row_valid.calls kv0 A0 c0 l0 _ W (Kd.C_below hr0 hb) hc0 hv0)
  have HV1 := Aside0.mk (fun W (hb : Below w.heap.size w W) => rows_row_valid.calls kv1 A1 c1 l1 _ W (Kd.C_below hr1 hb) hc1 hv1)
  have H := Aside0.mk h
  clear hr0 hr1 hc0 hc1 hv0 hv1 h
  refine (callsIn_wide (n := 3)).1 ?_
  refine callsIn_of_wp_marks Try.func26 rfl trivial ?_ rfl
  simp only [Try.ntmps26, List.size_toArray, List.length_cons, List.length_nil, Nat.reduceAdd, Nat.reduceSub, Array.replicate_succ, Array.replicate_zero, List.push_toArray, List.append_toArray, List.nil_append, List.cons_append]
  obtain ⟨S, hS⟩ : ∃ S, S = w.heap.size := ⟨_, rfl⟩
  obtain ⟨W0, hW0⟩ : ∃ W0, (((w.alloc (.cells #[.slice A1 l1.length c1] 27)).alloc (.cells #[.int .i64 0, .int .i64 0] 46)).alloc (.cells #[.int .i64 0] 22)) = W0 := ⟨_, rfl⟩
  have hB0 : Below w.heap.size w W0 := by rw [← hW0]; exact below_alloc (below_alloc (below_alloc (Below.refl _ _) _) _) _
  have HB0 := Aside0.mk hB0
  have HW0 := Aside0.mk hW0
  have HS := Aside0.mk hS
  clear hB0
  have HX0 : Aside0 (BoxAt W0 w.heap.size [.slice A1 l1.length c1] ∧ BoxAt W0 (w.heap.size + 1) [.int .i64 0, .int .i64 0] ∧ BoxAt W0 (w.heap.size + 1 + 1) [.int .i64 0]) := ⟨by
    have x0 := BoxAt.new w [.slice A1 l1.length c1] 27
    have x1 := BoxAt.new (w.alloc (.cells #[.slice A1 l1.length c1] 27)) [.int .i64 0, .int .i64 0] 46
    have x2 := BoxAt.new ((w.alloc (.cells #[.slice A1 l1.length c1] 27)).alloc (.cells #[.int .i64 0, .int .i64 0] 46)) [.int .i64 0] 22
    simp only [World.size_alloc] at x1 x2
    rw [← HW0.out]
    exact ⟨(x0.alloc _).alloc _, x1.alloc _, x2⟩⟩
  have q0 : W0.cell? ⟨w.heap.size, 0, none⟩ = some (.slice A1 l1.length c1) := HX0.out.1.cell 0 _ rfl
  have q10 := HX0.out.2.1.cell 0 _ rfl
  have q11 := HX0.out.2.1.cell 1 _ rfl
  have qf10 := HX0.out.2.1.frozen 0
  have qf11 := HX0.out.2.1.frozen 1
  have q20 := HX0.out.2.2.cell 0 _ rfl
  have qf20 := HX0.out.2.2.frozen 0
  by_cases hr0 : IsRow l0
  · by_cases hr1 : IsRow l1
    · by_cases hle : l0.length = l1.length
      · have e0 : decide (IsRow l0) = true := decide_eq_true hr0
        have e1 : decide (IsRow l1) = true := decide_eq_true hr1
        rw [e0] at HV0
        rw [e1] at HV1
        have hne : ((l0.length : Int) != (l1.length : Int)) = false := by simp [hle]
        have HLE := Aside0.mk hle
        clear hle
        gi_wp2_with (first | (refine ⟨trivial, ?_⟩; (try rw [hW0]); gi_at_call 38; (with_reducible refine (callsIn_wide.2 (HV0.out _ HB0.out)).mono ?_); rintro e w' ⟨rfl, ⟨q, rfl⟩⟩; clear HV0 hW0) | (refine ⟨trivial, ?_⟩; gi_at_call 38; (with_reducible refine (callsIn_wide.2 (HV1.out _ (pw_below_drewN HB0.out _))).mono ?_); rintro e w' ⟨rfl, ⟨q2, rfl⟩⟩; clear HV1) | (refine ⟨trivial, ?_⟩; gi_at_call 39; (with_reducible refine (callsIn_wide.2 (whole_calls _ _ _ _)).mono ?_); rintro e w' ⟨rfl, hg⟩))
        have hg2 : W0.grownBy w' none := grown_of_below ((pw_below_drewN (Below.refl W0.heap.size W0) _).grown hg (Nat.le_refl _) (fun k e => by cases e)) none
        obtain ⟨x0, x1, x2⟩ := HX0.out
        have x0 := x0.grown hg2
        have x1 := x1.grown hg2
        have x2 := x2.grown hg2
        have hbw : Below w.heap.size w w' := (HB0.out).grown hg2 HB0.out.size (fun k e => by cases e)
        have hl3 : w.heap.size + 1 + 1 < w'.heap.size := x2.lt
        have HG := Aside0.mk hg2
        have HX := Aside0.mk (And.intro x0 (And.intro x1 x2))
        have HBW := Aside0.mk hbw
        have HL3 := Aside0.mk hl3
        have hC : ∀ W, KpC (fun b _ => b = w.heap.size + 1 ∨ b = w.heap.size + 1 + 1) w' W → Kd.C (Kd.int .i64) W A0 l0.length l0 := fun W hk => C_kpc (Kd.C_below HR0.out hbw) hk (fun a o ha hm hb => by
          rcases hb with e | e
          · exact Kd.far_C 0 HR0.out (by omega) a ha hm e
          · exact Kd.far_C 0 HR0.out (by omega) a ha hm e)
        clear hg hg2 x0 x1 x2 hbw hl3 hne q0 q10 q11 qf10 qf11 q20 qf20
        refine range_fs rfl (by omega) (gf := 40) (fs := #[.agg #[.int .i64 (l0.length : Int), .slice A0 l0.length c0]]) (lb := #[]) rfl trivial (enters_of Try.func40 (by kernel_rfl) rfl)
          (forms_seq (fun b _ => b = w.heap.size + 1 ∨ b = w.heap.size + 1 + 1) l0.length (by have := hr0.1; omega) (by have := hr0.2.1; omega) A0 c0 l0 (by have := hr0.2.1; omega) (row_small hr0) HC0.out w' (fun b cs hb => by have := HL3.out; omega) hC)
          (fun x W vals hE => by obtain ⟨A, c, rfl, _⟩ := hE; rfl)
          (fun A B h => KeepsOthers.of_grownBy h (fun j o e => by cases e))
          (fun h k => h.trans k)
          (fun W l o o' hl ho hc => KpC.putObj W ho hc)
          (fun pre W => (BoxAt W w.heap.size [.slice A1 l1.length c1] ∧ (∃ u v, BoxAt W (w.heap.size + 1) [u, v]) ∧ (∃ u, BoxAt W (w.heap.size + 1 + 1) [u]) ∧ Below w.heap.size w W ∧ ∀ p ∈ pre, formOf l0.length p.1 p.2 l0 ≠ l1))
          (fun c pre W => (c = .ret ∧ ∃ p, wayOf l0 l1 = some p ∧ BoxAt W (w.heap.size + 1) [.int .i64 (p.1 : Int), .int .i64 (p.2 : Int)] ∧ BoxAt W (w.heap.size + 1 + 1) [.int .i64 0] ∧ Below w.heap.size w W))
          ?hI ?hIx ?hIs ?hIxs ?h0
          (fun x a' W => ∃ Bx A c, a' = { tmps := #[.slice A0 l0.length c0, .slice A1 l1.length c1, undef, .pointer (some ⟨w.heap.size, 0, none⟩), .pointer (some ⟨w.heap.size + 1, 0, none⟩), .pointer (some ⟨w.heap.size + 1 + 1, 0, none⟩), .pointer (some ⟨Bx, 0, none⟩), .slice A0 l0.length c0, .bool true, .bool false, .bool false, .slice A1 l1.length c1, .bool true, .bool false, .bool false, .bool false, .slice A0 l0.length c0, .int .i64 l0.length, .slice A1 l1.length c1, .int .i64 l1.length, .bool false, .bool false, undef, .slice A0 l0.length c0, .agg #[.int .i64 l0.length, .slice A0 l0.length c0], .func (.func 40) #[.agg #[.int .i64 l0.length, .slice A0 l0.length c0]] #[], .agg #[.int .i64 x.1, .int .i64 x.2, .slice A (formOf l0.length x.1 x.2 l0).length c], undef, undef, undef, undef, undef, undef, undef], defers := [] } ∧
            BoxAt W Bx [.int .i64 x.1, .int .i64 x.2, .slice A (formOf l0.length x.1 x.2 l0).length c] ∧ Kd.C (Kd.int .i64) W A (formOf l0.length x.1 x.2 l0).length (formOf l0.length x.1 x.2 l0) ∧ (formOf l0.length x.1 x.2 l0).length ≤ c)
          ?hAx ?assign ?body ?done ?stop
        case hI =>
          rintro s A B row ⟨y0, ⟨u, v, y1⟩, ⟨z, y2⟩, y3, y4⟩ hg hr
          exact ⟨y0.own hg (fun r e => (hr r e).2), ⟨u, v, y1.own hg (fun r e => (hr r e).2)⟩, ⟨z, y2.own hg (fun r e => (hr r e).2)⟩, y3.grown hg y3.size (fun k e => by have := (hr k e).1; have := HBW.out.size; omega), y4⟩
        case hIx =>
          rintro c s A B row ⟨y0, p, y1, y2, y3, y4⟩ hg hr
          exact ⟨y0, p, y1, y2.own hg (fun r e => (hr r e).2), y3.own hg (fun r e => (hr r e).2), y4.grown hg y4.size (fun k e => by have := (hr k e).1; have := HBW.out.size; omega)⟩
        case hIs =>
          rintro s A B ⟨y0, ⟨u, v, y1⟩, ⟨z, y2⟩, y3, y4⟩ hg
          exact ⟨y0.grown hg, ⟨u, v, y1.grown hg⟩, ⟨z, y2.grown hg⟩, y3.grown hg y3.size (fun k e => by cases e), y4⟩
        case hIxs =>
          rintro c s A B ⟨y0, p, y1, y2, y3, y4⟩ hg
          exact ⟨y0, p, y1, y2.grown hg, y3.grown hg, y4.grown hg y4.size (fun k e => by cases e)⟩
        case h0 => exact ⟨HX.out.1, ⟨_, _, HX.out.2.1⟩, ⟨_, HX.out.2.2⟩, HBW.out, by simp⟩
        case hAx =>
          rintro x a' s A B row ⟨Bx, A', c, e, hb, hC, hl⟩ hg hr
          exact ⟨Bx, A', c, e, hb.own hg (fun r e => (hr r e).2), C_kpc hC (own_kpc hg hr) (fun _ _ _ _ h => h), hl⟩
        case assign =>
          rintro l pre x vals W K hI ⟨A, c, rfl, hCv, hlv⟩ hK
          have HK := Aside0.mk hK
          have HI := Aside0.mk hI
          have HCV := Aside0.mk hCv
          have HLV := Aside0.mk hlv
          clear hK hI hCv hlv hC
          gi_wp2
          have g1 : W.grownBy (W.alloc (.cells #[.int .i64 (x.1 : Int), .int .i64 (x.2 : Int), .slice A (formOf l0.length x.1 x.2 l0).length c] 71)) none := World.grownBy_alloc W _ none
          obtain ⟨y0, ⟨u, v, y1⟩, ⟨z, y2⟩, y3, y4⟩ := HI.out
          exact HK.out _ _ (KeepsOthers.of_grownBy g1 (fun j o e => by cases e)) (KpC.of_grown g1)
            ⟨y0.grown g1, ⟨u, v, y1.grown g1⟩, ⟨z, y2.grown g1⟩, y3.grown g1 y3.size (fun k e => by cases e), y4⟩
            ⟨W.heap.size, A, c, rfl, BoxAt.new W _ _, C_kpc HCV.out (KpC.of_grown (X := fun _ _ => False) g1) (fun _ _ _ _ h => h), HLV.out⟩
        case body =>
          rintro l pre x rest a' W hlw hloop hx ⟨y0, ⟨u, v, y1⟩, ⟨z, y2⟩, y3, y4⟩ ⟨Bx, A, c, rfl, hb, hCx, hlx⟩
          have hl1 : (formOf l0.length x.1 x.2 l0).length < 9223372036854775807 := by
            have : (formOf l0.length x.1 x.2 l0).length = l0.length := by unfold formOf; split <;> simp
            have := hr0.2.1; omega
          obtain ⟨ke, hke⟩ := Ev.rounds (g := fun k => slices_Equal_int_int.f k (formOf l0.length x.1 x.2 l0) l1) (Equal_ev _ _ hl1)
          have HEQ := Aside0.mk (slices_Equal_int_int.calls ke A c _ A1 c1 l1 _ W hCx hlx (Kd.C_below HR1.out y3) HC1.out hke)
          have b2 := hb.cell 2 _ rfl
          have b0 := hb.cell 0 _ rfl
          have b1 := hb.cell 1 _ rfl
          have s0 := y0.cell 0 _ rfl
          have t0 := y1.cell 0 _ rfl
          have t1 := y1.cell 1 _ rfl
          have tf0 := y1.frozen 0
          have tf1 := y1.frozen 1
          have z0 := y2.cell 0 _ rfl
          have zf := y2.frozen 0
          have HY := Aside0.mk (And.intro y0 (And.intro y1 (And.intro y2 (And.intro y3 y4))))
          have HB := Aside0.mk hb
          have HXX := Aside0.mk hx
          clear hb hx y0 y1 y2 y3 y4 hCx hlx hke hl1 hC
          by_cases hd : formOf l0.length x.1 x.2 l0 = l1
          · have HD := Aside0.mk hd
            rw [decide_eq_true hd] at HEQ
            clear hd
            gi_wp2_with (refine ⟨trivial, ?_⟩; gi_at_call 11; (with_reducible refine (CallsIn.inRound l (callsIn_wide.2 HEQ.out)).mono ?_); rintro e w2 ⟨rfl, ⟨q, rfl⟩⟩)
            obtain ⟨y0, y1, y2, y3, y4⟩ := HY.out
            have hs3 := stores3 (y1.drewN q) (y2.drewN q) (pw_below_drewN y3 q) (.int .i64 (x.1 : Int)) (.int .i64 (x.2 : Int)) (.int .i64 0) _ rfl
            refine ⟨(show KeepsOthers W (W.drewN q) from ⟨Nat.le_refl _, fun _ _ h _ => h⟩).trans hs3.1, rfl, x, ?_, hs3.2.1, hs3.2.2.1, hs3.2.2.2⟩
            exact find_at HXX.out (fun p hp => decide_eq_false (y4 p hp)) (decide_eq_true HD.out)
          · have HD := Aside0.mk hd
            rw [decide_eq_false hd] at HEQ
            clear hd
            gi_wp2_with (refine ⟨trivial, ?_⟩; gi_at_call 11; (with_reducible refine (CallsIn.inRound l (callsIn_wide.2 HEQ.out)).mono ?_); rintro e w2 ⟨rfl, ⟨q, rfl⟩⟩)
            obtain ⟨y0, y1, y2, y3, y4⟩ := HY.out
            refine ⟨⟨Nat.le_refl _, fun _ _ h _ => h⟩, ⟨Nat.le_refl _, fun _ _ _ h _ => h⟩, y0.drewN q, ⟨_, _, y1.drewN q⟩, ⟨_, y2.drewN q⟩, pw_below_drewN y3 q, ?_⟩
            intro p hp
            rcases List.mem_append.1 hp with h | h
            · exact y4 p h
            · rw [List.mem_singleton] at h; subst h; exact HD.out
        case done =>
          rintro D W hD ⟨y0, ⟨u, v, y1⟩, ⟨z, y2⟩, y3, y4⟩ hK
          have t0 := y1.cell 0 _ rfl
          have t1 := y1.cell 1 _ rfl
          have tf0 := y1.frozen 0
          have tf1 := y1.frozen 1
          have z0 := y2.cell 0 _ rfl
          have zf := y2.frozen 0
          have HY := Aside0.mk (And.intro y1 (And.intro y2 (And.intro y3 y4)))
          have HK := Aside0.mk hK
          clear y0 y1 y2 y3 y4 hK hC
          gi_wp2
          obtain ⟨y1, y2, y3, y4⟩ := HY.out
          have hs3 := stores3 y1 y2 y3 (.int .i64 0) (.int .i64 0) (.int .i64 4) _ rfl
          have hkk := hs3.1.same D _ HK.out rfl
          refine ⟨by simp, .inl ⟨_, _, rfl, run_takeDeferred hkk, ?_⟩⟩
          have hk := KpC.putObj (X := fun _ _ => False) (o' := .deferred none) _ hkk rfl
          refine ⟨_, results_arr_int rfl _ _ (w.heap.size + 1) (w.heap.size + 1 + 1) 0 0 4 rfl rfl (hk.cell (fun _ _ h => h) (hs3.2.1.cell 0 _ rfl)) (hk.cell (fun _ _ h => h) (hs3.2.1.cell 1 _ rfl)) (hk.cell (fun _ _ h => h) (hs3.2.2.1.cell 0 _ rfl)), ?_, ?_⟩
          · have hn : wayOf l0 l1 = none := List.find?_eq_none.2 (fun p hp => by simp [y4 p hp])
            have h := H.out
            unfold rows_Way.f at h
            rw [if_pos ⟨hr0, hr1, HLE.out⟩, hn] at h
            cases h; rfl
          · exact hs3.2.2.2.grown (grownBy_putObj' _ D _) hs3.2.2.2.size (fun k e => by cases e; have := HBW.out.size; omega)
        case stop =>
          rintro D cc pre rest W hD hx ⟨rfl, p, hp, y1, y2, y3⟩ hK
          have HY := Aside0.mk (And.intro y1 (And.intro y2 y3))
          have HK := Aside0.mk hK
          clear y1 y2 y3 hK hC
          gi_wp2
          obtain ⟨y1, y2, y3⟩ := HY.out
          refine ⟨by simp, .inl ⟨_, _, rfl, run_takeDeferred HK.out, ?_⟩⟩
          have hk := KpC.putObj (X := fun _ _ => False) (o' := .deferred none) _ HK.out rfl
          refine ⟨_, results_arr_int rfl _ _ (w.heap.size + 1) (w.heap.size + 1 + 1) (p.1 : Int) (p.2 : Int) 0 rfl rfl (hk.cell (fun _ _ h => h) (y1.cell 0 _ rfl)) (hk.cell (fun _ _ h => h) (y1.cell 1 _ rfl)) (hk.cell (fun _ _ h => h) (y2.cell 0 _ rfl)), ?_, ?_⟩
          · have h := H.out
            unfold rows_Way.f at h
            rw [if_pos ⟨hr0, hr1, HLE.out⟩, hp] at h
            cases h; rfl
          · exact y3.grown (grownBy_putObj' _ D _) y3.size (fun k e => by cases e; have := HBW.out.size; omega)
      · have e0 : decide (IsRow l0) = true := decide_eq_true hr0
        have e1 : decide (IsRow l1) = true := decide_eq_true hr1
        rw [e0] at HV0
        rw [e1] at HV1
        have hne : ((l0.length : Int) != (l1.length : Int)) = true := bne_iff_ne.2 (by omega)
        have HLEN := Aside0.mk hle
        clear hle
        gi_wp2_with (first | (refine ⟨trivial, ?_⟩; (try rw [hW0]); gi_at_call 38; (with_reducible refine (callsIn_wide.2 (HV0.out _ HB0.out)).mono ?_); rintro e w' ⟨rfl, ⟨q, rfl⟩⟩; clear HV0 hW0) | (refine ⟨trivial, ?_⟩; gi_at_call 38; (with_reducible refine (callsIn_wide.2 (HV1.out _ (pw_below_drewN HB0.out _))).mono ?_); rintro e w' ⟨rfl, ⟨q2, rfl⟩⟩; clear HV1))
        have hs3 := stores3 (HX0.out.2.1.drewN (q + q2)) (HX0.out.2.2.drewN (q + q2)) (pw_below_drewN HB0.out (q + q2)) (.int .i64 0) (.int .i64 0) (.int .i64 2) _ rfl
        refine ⟨_, results_arr_int rfl _ _ (w.heap.size + 1) (w.heap.size + 1 + 1) 0 0 2 rfl rfl (hs3.2.1.cell 0 _ rfl) (hs3.2.1.cell 1 _ rfl) (hs3.2.2.1.cell 0 _ rfl), ?_, hs3.2.2.2⟩
        have h := H.out
        unfold rows_Way.f at h
        rw [if_neg (fun hh => HLEN.out hh.2.2)] at h
        cases h; rfl
    · have e0 : decide (IsRow l0) = true := decide_eq_true hr0
      have e1 : decide (IsRow l1) = false := decide_eq_false hr1
      rw [e0] at HV0
      rw [e1] at HV1
      gi_wp2_with (first | (refine ⟨trivial, ?_⟩; (try rw [hW0]); gi_at_call 38; (with_reducible refine (callsIn_wide.2 (HV0.out _ HB0.out)).mono ?_); rintro e w' ⟨rfl, ⟨q, rfl⟩⟩; clear HV0 hW0) | (refine ⟨trivial, ?_⟩; gi_at_call 38; (with_reducible refine (callsIn_wide.2 (HV1.out _ (pw_below_drewN HB0.out _))).mono ?_); rintro e w' ⟨rfl, ⟨q2, rfl⟩⟩; clear HV1))
      have hs3 := stores3 (HX0.out.2.1.drewN (q + q2)) (HX0.out.2.2.drewN (q + q2)) (pw_below_drewN HB0.out (q + q2)) (.int .i64 0) (.int .i64 0) (.int .i64 2) _ rfl
      refine ⟨_, results_arr_int rfl _ _ (w.heap.size + 1) (w.heap.size + 1 + 1) 0 0 2 rfl rfl (hs3.2.1.cell 0 _ rfl) (hs3.2.1.cell 1 _ rfl) (hs3.2.2.1.cell 0 _ rfl), ?_, hs3.2.2.2⟩
      have h := H.out
      unfold rows_Way.f at h
      rw [if_neg (fun hh => hr1 hh.2.1)] at h
      cases h; rfl
  · have e0 : decide (IsRow l0) = false := decide_eq_false hr0
    rw [e0] at HV0
    gi_wp2_with (refine ⟨trivial, ?_⟩; (try rw [hW0]); gi_at_call 38; (with_reducible refine (callsIn_wide.2 (HV0.out _ HB0.out)).mono ?_); rintro e w' ⟨rfl, ⟨q, rfl⟩⟩; clear HV0 hW0)
    refine ⟨trivial, ?_⟩
    gi_wp2
    have hs3 := stores3 (HX0.out.2.1.drewN q) (HX0.out.2.2.drewN q) (pw_below_drewN HB0.out q) (.int .i64 0) (.int .i64 0) (.int .i64 2) _ rfl
    refine ⟨_, results_arr_int rfl _ _ (w.heap.size + 1) (w.heap.size + 1 + 1) 0 0 2 rfl rfl (hs3.2.1.cell 0 _ rfl) (hs3.2.1.cell 1 _ rfl) (hs3.2.2.1.cell 0 _ rfl), ?_, hs3.2.2.2⟩
    have h := H.out
    unfold rows_Way.f at h
    rw [if_neg (fun hh => hr0 hh.1)] at h
    cases h; rfl

end Go.Proofs.Ytknchioabngbiaa.P
namespace Go.Proofs.Ytknchioabngbiaa.P
open Go.RowKit Go.Proofs.YtknchioabngbiaaW.PrintWords Go.Proofs.YtknchioabngbiaaW.PrintLast Go.Proofs.YtknchioabngbiaaW.PrintMore
attribute [local go_sem] max2_int min2_int max_two min_two max_three min_three max_four min_four   -- for this text's walks alone
set_option linter.unusedVariables false
set_option linter.unusedSimpArgs false

/-! ### sackbutlaw05_list: function 16 -/
def sackbutlaw05_list.f (l0 : List Int) : Option (List Int) := if 0 ≤ (mn (l0.length : Int) 13) then (if (mn (l0.length : Int) 13) ≤ (l0.length : Int) then ((slices_Clone_int_int.f (l0.take ((mn (l0.length : Int) 13) : Int).toNat)).bind fun t1003 => (some t1003)) else (none)) else (none)
set_option maxHeartbeats 8000000 in
set_option maxRecDepth 100000 in
theorem sackbutlaw05_list.calls (A0 : Option Addr) (c0 : Nat) (l0 : List Int) (r : List Int) (w : World) (hr0 : Kd.C (Kd.int .i64) w A0 l0.length l0) (hc0 : l0.length ≤ c0) (h : sackbutlaw05_list.f l0 = some r) :
    Calls Try.prog 16 #[.slice A0 l0.length c0] w fun e w' => ∃ v0_ : Value, e = .returned (v0_) ∧ Kd.R (Kd.int .i64) 3 w' w.heap.size (fun _ => True) v0_ r ∧ Below w.heap.size w w' := by
  have HR0 := Aside0.mk hr0
  have HC0 := Aside0.mk hc0
  clear hr0 hc0
  have HB := Aside0.mk (Below.refl w.heap.size w)
  have H : (if 0 ≤ (mn (l0.length : Int) 13) then (if (mn (l0.length : Int) 13) ≤ (l0.length : Int) then ((slices_Clone_int_int.f (l0.take ((mn (l0.length : Int) 13) : Int).toNat)).bind fun t1003 => (some t1003)) else (none)) else (none)) = some r := h
  clear h
  obtain ⟨ji2, hji2⟩ : ∃ j_ : Int, (mn (l0.length : Int) 13) = j_ := ⟨_, rfl⟩
  replace H : (if 0 ≤ (ji2) then (if (ji2) ≤ (l0.length : Int) then ((slices_Clone_int_int.f (l0.take ((ji2) : Int).toNat)).bind fun t1003 => (some t1003)) else (none)) else (none)) = some r := by first | (rw [hji2] at H; exact H) | (simp only [hji2] at H ⊢; exact H)
  (try (have hji2h : ji2 ≤ 13 := by (rw [← hji2]; unfold mn; (repeat' split) <;> omega)))
  (try (have hji2g : ji2 ≤ 64 := by omega))
  (try (have hji2l : 0 ≤ ji2 := by (rw [← hji2]; unfold mn; (repeat' split) <;> omega)))
  (try (have hji2m : 0 ≤ ji2 := by omega))
  have hji2_ : (if 13 < (l0.length : Int) then 13 else (l0.length : Int)) = ji2 := hji2
  by_cases c3 : 0 ≤ (ji2)
  · rw [if_pos c3] at H
    have c3b0 := eq_true c3
    have c3b1 : decide (0 ≤ (ji2)) = true := decide_eq_true c3
    clear c3
    by_cases c4 : (ji2) ≤ (l0.length : Int)
    · rw [if_pos c4] at H
      have c4b0 := eq_true c4
      have c4b1 : decide ((ji2) ≤ (l0.length : Int)) = true := decide_eq_true c4
      clear c4
      obtain ⟨y1001, hy1001⟩ : ∃ y_ : List Int, y_ = (l0.take ((ji2) : Int).toNat) := ⟨_, rfl⟩
      replace H : ((slices_Clone_int_int.f y1001).bind fun t1003 => (some t1003)) = some r := by first | (rw [hy1001]; with_reducible exact H) | (have H2_ := (Option.bind_some _ _).symm.trans H; rw [hy1001]; with_reducible exact H2_) | (have H2_ := (Option.bind_some _ _).symm.trans H; with_reducible exact H2_) | with_reducible exact H | (rw [hy1001]; exact H) | exact H
      have Ny1001 := Aside0.mk hy1001
      clear hy1001
      replace H := Option.bind_eq_some_iff.mp H
      obtain ⟨t1003, A50, H⟩ := H
      replace H : (some t1003) = some r := H
      have A5 := Aside0.mk A50
      clear A50
      obtain rfl := Option.some.inj H
      obtain ⟨i06, hi06, _, hsz6, _⟩ := info_parts info3
      obtain ⟨hcut6, hA6, hC6⟩ := print_take_of (P := Try.prog) (Value.int .i64) 0 27 3 .i64 Try.underlying27 hi06 hsz6 A0 c0 l0 (ji2) (of_decide_eq_true (by first | (with_reducible assumption) | assumption)) (of_decide_eq_true (by first | (with_reducible assumption) | assumption)) HC0.out
      (first | rw [← Ny1001.out] at hcut6 hA6 hC6 | (simp only [Int.reduceToNat] at hcut6 hA6 hC6; rw [← Ny1001.out] at hcut6 hA6 hC6))
      have HR1002 := Aside0.mk (Kd.C_of_reads (h1 := fun _ => rfl) (hA6 _ (Kd.reads_of_C HR0.out)))
      have HC1002 := Aside0.mk hC6
      clear hA6 hC6 hi06 hsz6
      go_enter Try.func16, Try.ntmps16
      go_wp2_with (first | ((with_reducible refine gate_callee (f := 18) rfl ?_); refine goesL_ (some 8) rfl rfl Try.func18 (by kernel_rfl) rfl #[.slice A0 y1001.length c0] rfl (by (try simp only [List.map_toArray, List.map_cons, List.map_nil]); first | done | rfl | (simp only [List.length_drop, List.length_take]; rfl)) ?_; (with_reducible refine (slices_Clone_int_int.calls _ _ y1001 t1003 _ ?side1 ?side2 A5.out).mono ?_); (case side1 => repeat (first | exact HR1002.out | (with_reducible refine Kd.C_alloc ?_ _) | (with_reducible refine Kd.C_drewN ?_ _) | (with_reducible refine Kd.C_drew ?_))); (case side2 => exact HC1002.out); rintro e w7 ⟨v1004, rfl, ho0, hb⟩; refine ⟨_, rfl, ?_⟩; have n0_ := Aside0.mk (Kd.R_lower ho0 (below_size (by repeat (first | (with_reducible first | exact HB.out | apply below_alloc | apply pw_below_drewN | apply below_drew1) | exact HB.out)))); have n1_ := Aside0.mk (below_step (by repeat (first | (with_reducible first | exact HB.out | apply below_alloc | apply pw_below_drewN | apply below_drew1) | exact HB.out)) hb); clear HB; have HO1005 := n0_; have HB := n1_; clear n0_ n1_; (try clear hb); (try clear hb2); (try clear hk); (try clear hi); (try clear ho0)))
      go_ret
      exact ⟨_, by first | rfl | (simp [errW_none, errW_some] <;> rfl) | (simp only [← hji2]; first | rfl | (simp [errW_none, errW_some] <;> rfl)) | (simp [*, errW_none, errW_some] <;> rfl), by (with_reducible repeat (first | apply Kd.R_alloc | apply Kd.R_drewN | apply Kd.R_drew)); exact HO1005.out, by repeat (first | (with_reducible first | exact HB.out | apply below_alloc | apply pw_below_drewN | apply below_drew1) | exact HB.out)⟩
    · rw [if_neg c4] at H
      exact absurd H (by simp)
  · rw [if_neg c3] at H
    exact absurd H (by simp)

end Go.Proofs.Ytknchioabngbiaa.P
