/- Proved here: the Go function sackbutlaw05.RowsParts returns true for every input (its printed form comes to true), whatever its arguments. Conditions: none beyond the row's own reach in memory. -/
import Derived.Test.YtpfjnpbcnlbhaaaRows
import Derived.WalkKit
import Derived.ProofKit
import Derived.OpenShut
import Derived.ShutString
import Derived.ChangeOld
import Derived.Below
import Derived.SizedLaws
import Derived.Test.YtpfjnpbcnlbhaaaWSized
import Derived.Test.YtpfjnpbcnlbhaaaCRowsParts1
import Derived.Test.YtpfjnpbcnlbhaaaCRowsParts3
import Derived.Test.YtpfjnpbcnlbhaaaCRowsParts4
import Derived.Test.YtpfjnpbcnlbhaaaCRowsParts5
import Derived.Test.YtpfjnpbcnlbhaaaCRowsParts6
namespace Go.Proofs.Ytpfjnpbcnlbhaaa.P
open Go.RowKit Go.Proofs.YtpfjnpbcnlbhaaaW.PrintWords Go.Proofs.YtpfjnpbcnlbhaaaW.PrintLast Go.Proofs.YtpfjnpbcnlbhaaaW.PrintMore
attribute [local go_sem] max2_int min2_int max_two min_two max_three min_three max_four min_four   -- for this text's walks alone
set_option linter.unusedVariables false
set_option linter.unusedSimpArgs false

/-! list -/
theorem list_f (l : List Int) : sackbutlaw05_list.f l = some (l.take 13) := by
  unfold sackbutlaw05_list.f
  rw [mn_eq, if_pos (by omega), if_pos (by omega)]
  have e : (min (l.length : Int) 13).toNat = min l.length 13 := by omega
  have e2 : l.take (min l.length 13) = l.take 13 := by
    rw [Nat.min_comm]; exact (List.take_eq_take_min ..).symm
  rw [e, e2]
  unfold slices_Clone_int_int.f
  rw [if_pos (by rw [List.length_take]; omega)]
  rfl
theorem isRow_take (l : List Int) : IsRow (l.take 13) ↔ IsRow l := by
  rcases Nat.lt_or_ge 13 l.length with h | h
  · constructor
    · intro hr; have := hr.2.1; rw [List.length_take] at this; omega
    · intro hr; have := hr.2.1; omega
  · rw [List.take_of_length_le h]
theorem row_take {l : List Int} (h : IsRow l) : l.take 13 = l := List.take_of_length_le (by have := h.2.1; omega)

theorem awake_ev : Ev (fun k => sackbutlaw05_awake.f k) true := by
  unfold sackbutlaw05_awake.f
  refine Ev.bind (Steps_ev [0, 1, 3, 2]) ?_
  have h : IsRow [0, 1, 3, 2] := by decide
  have e : stepsOf ([0, 1, 3, 2] : List Int).length [0, 1, 3, 2] = [1, 2, 3] := by decide
  simp only [h, if_true, e]
  exact Ev.bind (Equal_ev [1, 2, 3] [1, 2, 3] (by decide)) (Ev.some _)

end Go.Proofs.Ytpfjnpbcnlbhaaa.P
namespace Go.Proofs.Ytpfjnpbcnlbhaaa.P
open Go.RowKit Go.Proofs.YtpfjnpbcnlbhaaaW.PrintWords Go.Proofs.YtpfjnpbcnlbhaaaW.PrintLast Go.Proofs.YtpfjnpbcnlbhaaaW.PrintMore
attribute [local go_sem] max2_int min2_int max_two min_two max_three min_three max_four min_four   -- for this text's walks alone
set_option linter.unusedVariables false
set_option linter.unusedSimpArgs false

/-- one is a form of the other -/
def RelN (n : Nat) (a b : List Int) : Prop := ∃ k1 k2 : Int, formOf n k1 k2 a = b
theorem RelN.trans {n : Nat} {a b c : List Int} (h : RelN n a b) (k : RelN n b c) : RelN n a c := by
  obtain ⟨p1, p2, rfl⟩ := h
  obtain ⟨q1, q2, rfl⟩ := k
  exact ⟨_, _, (form_comp _ _ _ _ _ _).symm⟩
theorem RelN.symm {n : Nat} {a b : List Int} (ha : ∀ x ∈ a, 0 ≤ x ∧ x < (n : Int)) (h : RelN n a b) : RelN n b a := by
  obtain ⟨p1, p2, rfl⟩ := h
  exact ⟨p1, invM p1 p2, form_inv _ _ _ _ ha⟩
theorem chunk_mem {l : List Int} {d i : Nat} {x : Int} (h : x ∈ chunkAt l d i) : x ∈ l := List.mem_of_mem_drop (List.mem_of_mem_take h)
theorem chunk_zero (l : List Int) (d : Nat) : chunkAt l d 0 = l.take d := by unfold chunkAt; simp
theorem part_iff {l : List Int} (hn : 1 ≤ l.length) (d i : Nat) : partOk l d i = true ↔ RelN l.length (chunkAt l d 0) (chunkAt l d i) := by
  rw [chunk_zero]
  unfold partOk
  rw [List.any_eq_true]
  constructor
  · rintro ⟨p, _, h⟩; exact ⟨p.1, p.2, of_decide_eq_true h⟩
  · rintro ⟨k1, k2, h⟩
    obtain ⟨p, hp, he⟩ := form_pair hn k1 k2
    exact ⟨p, hp, decide_eq_true (by rw [← he]; exact h)⟩
theorem made_iff {l : List Int} (hn : 1 ≤ l.length) (d : Nat) : madeL l d = true ↔ ∀ i, i < l.length / d → RelN l.length (chunkAt l d 0) (chunkAt l d i) := by
  unfold madeL
  rw [List.all_eq_true]
  exact ⟨fun h i hi => (part_iff hn d i).1 (h i (List.mem_range.2 hi)), fun h i hi => (part_iff hn d i).2 (h i (List.mem_range.1 hi))⟩
theorem chunk_map (g : Int → Int) (l : List Int) (d i : Nat) : chunkAt (l.map g) d i = (chunkAt l d i).map g := by
  unfold chunkAt; rw [List.map_take, List.map_drop]
theorem chunk_rev {l : List Int} {d M i : Nat} (hl : l.length = M * d) (hi : i < M) : chunkAt l.reverse d i = (chunkAt l d (M - 1 - i)).reverse := by
  obtain ⟨r, hr⟩ : ∃ r, M = i + 1 + r := ⟨M - (i + 1), by omega⟩
  have e1 : M - 1 - i = r := by omega
  have e2 : M * d - i * d = r * d + d := by
    rw [hr, Nat.add_mul, Nat.add_mul]; omega
  unfold chunkAt
  rw [e1, List.drop_reverse, hl, e2, List.take_reverse, List.length_take, hl]
  have e3 : min (r * d + d) (M * d) = r * d + d := by
    rw [hr, Nat.add_mul, Nat.add_mul, Nat.one_mul]
    refine Nat.min_eq_left ?_
    have := Nat.zero_le (i * d)
    omega
  rw [e3, Nat.add_sub_cancel]
  congr 1
  rw [List.drop_take]; congr 1; omega
theorem chunk_form {l : List Int} {d M : Nat} (hl : l.length = M * d) (k1 k2 : Int) {i : Nat} (hi : i < M) : ∃ j, j < M ∧ chunkAt (formOf l.length k1 k2 l) d i = formOf l.length k1 k2 (chunkAt l d j) := by
  unfold formOf
  by_cases h : k1 / 2 % 2 = 1
  · refine ⟨M - 1 - i, by omega, ?_⟩
    rw [if_pos h, if_pos h, chunk_rev (M := M) (by rw [List.length_map]; exact hl) hi, chunk_map]
  · refine ⟨i, hi, ?_⟩
    rw [if_neg h, if_neg h, chunk_map]
theorem made_fwd {l : List Int} (h : IsRow l) {d M : Nat} (hd : 1 ≤ d) (hl : l.length = M * d) (k1 k2 : Int) (hm : madeL l d = true) : madeL (formOf l.length k1 k2 l) d = true := by
  have h1 := h.1
  have hM : l.length / d = M := by rw [hl]; exact Nat.mul_div_cancel _ (by omega)
  have hM0 : 0 < M := by
    rcases Nat.eq_zero_or_pos M with e | e
    · rw [e] at hl; omega
    · exact e
  rw [made_iff (by omega)] at hm
  rw [hM] at hm
  have hr : ∀ j, ∀ x ∈ chunkAt l d j, 0 ≤ x ∧ x < (l.length : Int) := fun j x hx => h.2.2.1 x (chunk_mem hx)
  rw [made_iff (by rw [formOf_length]; omega), formOf_length, hM]
  intro i hi
  obtain ⟨j0, hj0, e0⟩ := chunk_form hl k1 k2 hM0
  obtain ⟨j, hj, e⟩ := chunk_form hl k1 k2 hi
  rw [e0, e]
  have a1 : RelN l.length (formOf l.length k1 k2 (chunkAt l d j0)) (chunkAt l d j0) := ⟨k1, invM k1 k2, form_inv _ _ _ _ (hr j0)⟩
  have a2 := (hm j0 hj0).symm (hr 0)
  have a3 := hm j hj
  exact ((a1.trans a2).trans a3).trans ⟨k1, k2, rfl⟩
theorem made_form {l : List Int} (h : IsRow l) {d : Nat} (hd : LenOk l.length d) (k1 k2 : Int) : madeL (formOf l.length k1 k2 l) d = madeL l d := by
  obtain ⟨h2, h3, h4⟩ := hd
  have hM : l.length = l.length / d * d := (Nat.div_mul_cancel (Nat.dvd_of_mod_eq_zero (by omega))).symm
  have hf := form_row h k1 k2
  have hback := form_inv l.length k1 k2 l h.2.2.1
  cases hm : madeL l d with
  | true => exact made_fwd h (by omega) hM k1 k2 hm
  | false =>
    cases hm2 : madeL (formOf l.length k1 k2 l) d with
    | false => rfl
    | true =>
      have := made_fwd hf (d := d) (M := l.length / d) (by omega) (by rw [formOf_length]; exact hM) k1 (invM k1 k2) hm2
      rw [formOf_length, hback, hm] at this
      cases this
/-- a row in which every step is the same -/
def evenRow (n m : Nat) : List Int := (List.range n).map fun i => ((i * m % n : Nat) : Int)
theorem even_row {n m : Nat} (hn : 2 ≤ n) (hn2 : n ≤ 10) (hg : Nat.gcd m n = 1) : IsRow (evenRow n m) := by
  have hl : (evenRow n m).length = n := by unfold evenRow; simp
  refine ⟨by omega, by omega, fun x hx => ?_, ?_⟩
  · rw [hl]
    obtain ⟨i, _, rfl⟩ := List.mem_map.1 hx
    have := Nat.mod_lt (i * m) (show 0 < n by omega)
    omega
  · unfold evenRow
    rw [List.Nodup, List.pairwise_map]
    refine List.Pairwise.imp_of_mem (fun {i j} hi hj hij e => hij ?_) (List.nodup_range (n := n))
    have hi := List.mem_range.1 hi
    have hj := List.mem_range.1 hj
    have e2 : i * m % n = j * m % n := by omega
    have key : ∀ a b : Nat, a ≤ b → b < n → a * m % n = b * m % n → a = b := by
      intro a b hab hb he
      have hd : n ∣ (b - a) * m := by
        rw [Nat.sub_mul]
        exact Nat.dvd_of_mod_eq_zero (Nat.sub_mod_eq_zero_of_mod_eq he.symm)
      have := Nat.Coprime.dvd_of_dvd_mul_right (show Nat.gcd n m = 1 by rw [Nat.gcd_comm]; exact hg) hd
      rcases Nat.eq_zero_or_pos (b - a) with h0 | h0
      · omega
      · have := Nat.le_of_dvd h0 this; omega
    rcases Nat.le_total i j with h | h
    · exact key i j h hj e2
    · exact (key j i h hi e2.symm).symm
theorem even_made {n m d : Nat} (hn : 2 ≤ n) (hd : LenOk n d) : madeL (evenRow n m) d = true := by
  have hl : (evenRow n m).length = n := by unfold evenRow; simp
  obtain ⟨h2, h3, h4⟩ := hd
  have hM : n = n / d * d := (Nat.div_mul_cancel (Nat.dvd_of_mod_eq_zero (by omega))).symm
  rw [made_iff (by omega), hl]
  intro i hi
  refine ⟨0, ((i * d * m : Nat) : Int), ?_⟩
  have hid : i * d + d ≤ n := by
    have : (i + 1) * d ≤ n / d * d := Nat.mul_le_mul_right d hi
    rw [Nat.add_mul, Nat.one_mul, ← hM] at this; exact this
  unfold formOf
  rw [if_neg (by decide)]
  apply List.ext_getElem
  · rw [List.length_map]; unfold chunkAt; rw [List.length_take, List.length_take, List.length_drop, List.length_drop, hl]; omega
  · intro j h1 h2'
    rw [List.length_map] at h1
    have hj : j < d := by unfold chunkAt at h1; rw [List.length_take] at h1; omega
    rw [List.getElem_map]
    unfold chunkAt evenRow toneOf
    simp only [List.getElem_take, List.getElem_drop, List.getElem_map, List.getElem_range, Nat.zero_mul, Nat.zero_add]
    rw [if_neg (by decide)]
    have : ((j * m % n : Nat) : Int) + ((i * d * m : Nat) : Int) % (n : Int) = (((j * m % n) + (i * d * m % n) : Nat) : Int) := by simp
    rw [this, ← Int.natCast_emod, Nat.add_mod_mod, Nat.mod_add_mod, Nat.add_comm, ← Nat.add_mul]
    simp
theorem parts_l0 (d n : Nat) (g : Int) : ∀ y x : Nat, x < 2 ^ 62 → y < 2 ^ 62 → (Nat.gcd x y = 1 → Ev (fun k => sackbutlaw05_RowsParts.l1 k (d : Int) (n : Int) g ([] : List Int) (n : Int) 0) true) → Ev (fun k => sackbutlaw05_RowsParts.l0 k (d : Int) (n : Int) g (x : Int) (y : Int)) true := by
  intro y
  induction y using Nat.strongRecOn with
  | ind y ih =>
    intro x hx hy hend
    refine Ev.succ ?_
    simp only [sackbutlaw05_RowsParts.l0]
    refine Ev.ite (fun e => ?_) (fun e => ?_)
    · have hy0 : y = 0 := by omega
      subst hy0
      refine Ev.ite (fun e1 => ?_) (fun e1 => ?_)
      · exact hend (by rw [Nat.gcd_zero_right]; omega)
      · exact Ev.bind awake_ev (Ev.some _)
    · have hy0 : 0 < y := by omega
      have hm : Int.tmod (x : Int) (y : Int) = ((x % y : Nat) : Int) := by rw [Int.tmod_eq_emod_of_nonneg (by omega)]; simp
      rw [hm]
      refine ih (x % y) (Nat.mod_lt _ hy0) y hy (Nat.lt_trans (Nat.mod_lt _ hy0) hy) (fun hg => hend ?_)
      rw [← hg, Nat.gcd_comm y (x % y), ← Nat.gcd_rec, Nat.gcd_comm]
theorem parts_l1 {n m d : Nat} (hn : 2 ≤ n) (hn2 : n ≤ 10) (hm : m ≤ 10) (hg : Nat.gcd m n = 1) (hd : LenOk n d) : ∀ (r i : Nat), i + r = n →
    Ev (fun k => sackbutlaw05_RowsParts.l1 k (d : Int) (n : Int) (m : Int) ((evenRow n m).take i) (n : Int) (i : Int)) true := by
  have hl : (evenRow n m).length = n := by unfold evenRow; simp
  intro r
  induction r with
  | zero =>
    intro i hi
    refine Ev.succ ?_
    simp only [sackbutlaw05_RowsParts.l1, if_neg (show ¬ (i : Int) < (n : Int) by omega)]
    rw [List.take_of_length_le (by omega)]
    refine Ev.bind_some (Made_f _ _) ?_
    rw [hl, if_pos ⟨even_row hn hn2 hg, hd⟩, Int.toNat_natCast]
    simp only [even_made hn hd, if_true]
    exact Ev.bind awake_ev (Ev.some _)
  | succ r ih =>
    intro i hi
    have hw : wrap64 ((i : Int) + 1) = ((i + 1 : Nat) : Int) := by rw [wrap_id (by omega) (by omega)]; omega
    have him : i * m ≤ 10 * 10 := Nat.mul_le_mul (by omega) hm
    have hc2 : (i : Int) * (m : Int) = ((i * m : Nat) : Int) := by simp
    have hw2 : wrap64 ((i : Int) * (m : Int)) = ((i * m : Nat) : Int) := by rw [hc2]; exact wrap_id (by omega) (by omega)
    have ht : Int.tmod ((i * m : Nat) : Int) (n : Int) = ((i * m % n : Nat) : Int) := by rw [Int.tmod_eq_emod_of_nonneg (by omega)]; simp
    have e : (evenRow n m).take (i + 1) = (evenRow n m).take i ++ [((i * m % n : Nat) : Int)] := by
      rw [List.take_succ_eq_append_getElem (by omega)]
      congr 2
      simp [evenRow]
    refine Ev.succ ?_
    simp only [sackbutlaw05_RowsParts.l1, if_pos (show (i : Int) < (n : Int) by omega), if_neg (show ¬ (n : Int) = 0 by omega), hw, hw2, ht, List.length_take, if_pos (show min i (evenRow n m).length < 17592186044416 by omega)]
    rw [← e]
    exact ih (i + 1) (by omega)
theorem RowsParts : sackbutlaw05_RowsParts.Pure := by
  intro l d0 kind k _ _ _ _ _ _
  refine Ev.rounds (g := fun q => sackbutlaw05_RowsParts.f q l d0 kind k) ?_
  unfold sackbutlaw05_RowsParts.f
  refine Ev.bind_some (list_f l) ?_
  refine Ev.bind_some (Made_f _ _) ?_
  by_cases hr : IsRow l
  · have h1 := hr.1
    have h10 := hr.2.1
    simp only [isRow_take, hr, row_take hr, true_and]
    by_cases hl : LenOk l.length d0
    · obtain ⟨d, rfl⟩ : ∃ d : Nat, d0 = (d : Int) := ⟨d0.toNat, by have := hl.1; omega⟩
      simp only [hl, if_true, Int.toNat_natCast]
      refine Ev.bind (Row_ev l) ?_
      simp only [hr, decide_true, if_true]
      refine Ev.bind_some (Length_f (by omega) (by omega) (d : Int)) ?_
      simp only [hl, decide_true, Bool.not_true]
      refine Ev.succ ?_
      simp only [sackbutlaw05_RowsParts.j0, Bool.false_eq_true, if_false]
      refine Ev.bind_some (list_f l) ?_
      obtain ⟨K, hK0, hK4, hKw⟩ : ∃ K : Int, 0 ≤ K ∧ K < 4 ∧ wrap64 (Int.tmod (IntKind.u64.wrap kind) 4) = K := by
        have g0 : 0 ≤ IntKind.u64.wrap kind := by rw [IntKind.wrap_u64]; omega
        rw [Int.tmod_eq_emod_of_nonneg g0]
        exact ⟨IntKind.u64.wrap kind % 4, by omega, by omega, wrap_id (by omega) (by omega)⟩
      rw [row_take hr, hKw]
      refine Ev.bind (Form_ev l K k) ?_
      rw [if_pos ⟨hr, hK0, hK4⟩]
      simp only [if_true]
      have hf := form_row hr K k
      refine Ev.bind_some (Made_f _ _) ?_
      rw [formOf_length, if_pos ⟨hf, hl⟩, Int.toNat_natCast, made_form hr hl]
      simp only [bne_self_eq_false, if_true]
      refine Ev.succ ?_
      have hu : IntKind.u64.wrap (l.length : Int) = (l.length : Int) := by rw [IntKind.wrap_u64]; omega
      simp only [sackbutlaw05_RowsParts.j1, Bool.false_eq_true, if_false, hu, if_neg (show ¬ (l.length : Int) = 0 by omega)]
      obtain ⟨m, hm0, hm1, hmw⟩ : ∃ m : Nat, 1 ≤ m ∧ m ≤ l.length ∧ wrap64 (1 + wrap64 (Int.tmod (IntKind.u64.wrap k) (l.length : Int))) = (m : Int) := by
        have g0 : 0 ≤ IntKind.u64.wrap k := by rw [IntKind.wrap_u64]; omega
        rw [Int.tmod_eq_emod_of_nonneg g0]
        have g1 := Int.emod_nonneg (IntKind.u64.wrap k) (show (l.length : Int) ≠ 0 by omega)
        have g2 := Int.emod_lt_of_pos (IntKind.u64.wrap k) (show (0 : Int) < l.length by omega)
        generalize IntKind.u64.wrap k % (l.length : Int) = z at g1 g2
        refine ⟨(1 + z).toNat, by omega, by omega, ?_⟩
        rw [wrap_id (n := z) (by omega) (by omega), wrap_id (by omega) (by omega)]
        omega
      simp only [hmw]
      refine parts_l0 d l.length (m : Int) l.length m (by omega) (by omega) (fun hg => ?_)
      have := parts_l1 h1 h10 (show m ≤ 10 by omega) hg hl l.length 0 (by omega)
      simpa using this
    · simp only [hl, if_false, show ¬ ((2 : Int) = 0) by decide]
      refine Ev.succ ?_
      simp only [sackbutlaw05_RowsParts.j0, if_true]
      exact Ev.bind awake_ev (Ev.some _)
  · simp only [isRow_take, hr, false_and, if_false, show ¬ ((2 : Int) = 0) by decide]
    refine Ev.succ ?_
    simp only [sackbutlaw05_RowsParts.j0, if_true]
    exact Ev.bind awake_ev (Ev.some _)

end Go.Proofs.Ytpfjnpbcnlbhaaa.P
namespace Go.Proofs.Ytpfjnpbcnlbhaaa.Pure
theorem RowsParts : Go.Proofs.Ytpfjnpbcnlbhaaa.P.sackbutlaw05_RowsParts.Pure := Go.Proofs.Ytpfjnpbcnlbhaaa.P.RowsParts
end Go.Proofs.Ytpfjnpbcnlbhaaa.Pure
namespace Go.Proofs.Ytpfjnpbcnlbhaaa.rowsParts
open Go.ChangeShapes Go.WideShapes Go.ChangeAt Go.RowKit
open Go.ChangeMaps (open_string shut_string)
set_option linter.unusedVariables false
theorem own : ownKnob Try.prog.godebug = none := by kernel_rfl
theorem laidOut : laidOutB Try.prog = true := by kernel_rfl
def IsRow (k : IntKind) (w : World) (a : Option Addr) (len cap : Nat) (zs : List Int) : Prop :=
  (a = none ∧ len = 0 ∧ cap = 0 ∧ zs = []) ∨
  ∃ x, a = some x ∧ len ≤ cap ∧ cap ≤ maxLen ∧ zs.length = cap ∧ (∀ i, i < zs.length → w.cell? (x.add i) = some (.int k (zs.getD i 0))) ∧ ∀ n ∈ zs, (Lit.int k n).wf = true
set_option maxRecDepth 100000 in
theorem lifted (os : Os) (started : os.Started) (H : Type) (enc : TypeId × Value → H) :
    ReturnsInHanded {} Try.checked os 12 .any (Rows.rowsPartsSpec.pre6 enc Try.prog Try.f12 Rows.rowsPartsRow.domain false) (Rows.rowsPartsSpec.post enc Try.prog Try.f12 false true false false) := by
  refine returnsInHanded_of_change_sized (C := Try.checked) own started (by kernel_rfl) Try.func12
    (ChangeSpec.witness6 (enc := enc) (C := Try.checked) false ⟨#[], #[.slice none 0 0, .int .i64 0, .int .i64 0, .int .i64 0], []⟩ 8 (by kernel_rfl) (by kernel_rfl) (by kernel_rfl) (by kernel_rfl)) ?_
  intro W base args ds gs before hval0 hW hcnd hsz0 _
  have hsz : (DataW.weightsEach Try.prog (Try.f12.params.toList ++ Rows.rowsPartsSpec.plain.varTypes Try.prog) (ds ++ gs)).all (· ≤ reachBytes) = true := hsz0
  have hval : ∀ (j : Nat) t v, Try.f12.params[j]? = some t → args[j]? = some v → Value.okWide Try.prog W .any base t v := hval0
  have hW' := hW
  obtain ⟨p, q, hA0, hV, rfl, hfz, hnd⟩ := hW
  have hA : DataW.TrodAll enc Try.prog W 0 (fun _ => true) true Try.f12.params.toList args.toList ds p := hA0
  rw [Try.params12] at hA hval hsz
  obtain ⟨v0, vs0, d0, ds0, p0, q0, hargs, rfl, rfl, h0, r0⟩ := trodAll_cons hA
  obtain ⟨v1, vs1, d1, ds1, p1, q1, rfl, rfl, rfl, h1, r1⟩ := trodAll_cons r0
  obtain ⟨v2, vs2, d2, ds2, p2, q2, rfl, rfl, rfl, h2, r2⟩ := trodAll_cons r1
  obtain ⟨v3, vs3, d3, ds3, p3, q3, rfl, rfl, rfl, h3, r3⟩ := trodAll_cons r2
  obtain ⟨rfl, rfl, rfl⟩ := trodAll_nil r3
  obtain rfl : args = #[v0, v1, v2, v3] := by cases args; simp_all
  obtain ⟨rfl, rfl⟩ := trodVars_none hV
  obtain ⟨a0, len0, cap0, rfl⟩ := okWide_slice Try.underlying22 (hval 0 22 v0 rfl rfl)
  have k0 := h0
  have lt0 : ∀ x ∈ p0, x.block < W.heap.size := by obtain ⟨m, hm⟩ := k0; exact DataW.trod_lt m _ _ _ hm
  obtain ⟨z0, w0⟩ : ∃ zs, IsRow .i64 W a0 len0 cap0 zs := by
    obtain ⟨fuel, hf⟩ := h0
    rcases open_ints Try.underlying22 Try.underlying3 (by kernel_rfl) hf with ⟨hcs, _⟩ | ⟨x, l, c, zs, hcs, _, hl, hm, hz, _, hcell, hwz⟩
    · simp [Value.cells] at hcs
      obtain ⟨rfl, rfl, rfl⟩ := hcs
      exact ⟨[], .inl ⟨rfl, rfl, rfl, rfl⟩⟩
    · simp [Value.cells] at hcs
      obtain ⟨rfl, rfl, rfl⟩ := hcs
      exact ⟨zs, .inr ⟨_, rfl, hl, hm, by simpa using hz, hcell, hwz⟩⟩
  have y0 : len0 * 8 ≤ 140737488351232 := Go.Proofs.YtpfjnpbcnlbhaaaW.PrintWords.sized_ints hsz (j := 0) (t := 22) rfl rfl Try.underlying22 Try.underlying3 (by kernel_rfl) (by kernel_rfl) h0
  obtain ⟨a1, rfl, rfl, rfl, w1⟩ := open_int Try.underlying3 (hval 1 3 v1 rfl rfl) h1
  obtain ⟨a2, rfl, rfl, rfl, w2⟩ := open_int Try.underlying3 (hval 2 3 v2 rfl rfl) h2
  obtain ⟨a3, rfl, rfl, rfl, w3⟩ := open_int Try.underlying3 (hval 3 3 v3 rfl rfl) h3
  clear hA0 hval0 hsz0 hsz
  refine (P.sackbutlaw05_RowsParts.walk Pure.RowsParts a0 len0 cap0 z0 a1 a2 a3 W w0 y0 w1 w2 w3).mono fun e W' ⟨he, bel⟩ => ?_
  subst he
  exact ⟨_, rfl, _, _, _, [], _, [], hW', trodAll_mk1 (shut_bool Try.underlying4 _), (trodAll_cons_mk (Below.trod laidOut (by kernel_rfl) (of_decide_eq_true (by kernel_rfl)) k0 bel lt0) (trodAll_cons_mk (shut_int Try.underlying3 w1) (trodAll_cons_mk (shut_int Try.underlying3 w2) (trodAll_cons_mk (shut_int Try.underlying3 w3) trodAll_mk0)))), rfl, bel.frame _, fun h => by cases h⟩
theorem over : Rows.rowsPartsRow.holds Try.pinned (OpenSpec.ofChange Rows.rowsPartsSpec) :=
  OpenClaim.holds_of_wide 12 Try.f12 rfl rfl rfl rfl rfl rfl rfl ⟨rfl, rfl, rfl, rfl, rfl⟩ rfl rfl rfl rfl rfl (by kernel_rfl) Try.func12 (by kernel_rfl)
    (of_decide_eq_true (by kernel_rfl)) (by unfold Func.isWrapper; first | (rw [if_pos (by decide +kernel)]; kernel_rfl) | (rw [if_neg (by decide +kernel)]; exact ⟨rfl, rfl⟩))
    (fun os started H enc _ => lifted os started H enc)
theorem proved : Rows.RowsPartsSaid := over
#print axioms proved
end Go.Proofs.Ytpfjnpbcnlbhaaa.rowsParts
namespace Go.Proofs.Ytpfjnpbcnlbhaaa
/-- The row, under a short name, for the claim. -/
theorem rowsParts_holds : Rows.RowsPartsSaid := rowsParts.proved
end Go.Proofs.Ytpfjnpbcnlbhaaa
