/- Proved here: the Go function sackbutlaw06.VoicesNear returns true for every input (its printed form comes to true), whatever its arguments. Conditions: none beyond the row's own reach in memory. -/
import Derived.Test.YtfjafmgaahfhgaaRows
import Derived.WalkKit
import Derived.ProofKit
import Derived.OpenShut
import Derived.ShutString
import Derived.ChangeOld
import Derived.Below
import Derived.SizedLaws
import Derived.Test.YtfjafmgaahfhgaaWSized
import Derived.Test.YtfjafmgaahfhgaaCVoicesNear1
import Derived.Test.YtfjafmgaahfhgaaCVoicesNear2
import Derived.Test.YtfjafmgaahfhgaaCVoicesNear3
import Derived.Test.YtfjafmgaahfhgaaCVoicesNear4
import Derived.Test.YtfjafmgaahfhgaaCVoicesNear6
import Derived.Test.YtfjafmgaahfhgaaCVoicesNear7
import Derived.Test.YtfjafmgaahfhgaaCVoicesNear8
namespace Go.Proofs.Ytfjafmgaahfhgaa.P
open Go.RowKit Go.Proofs.YtfjafmgaahfhgaaW.PrintWords Go.Proofs.YtfjafmgaahfhgaaW.PrintLast Go.Proofs.YtfjafmgaahfhgaaW.PrintMore
attribute [local go_sem] max2_int min2_int max_two min_two max_three min_three max_four min_four   -- for this text's walks alone
set_option linter.unusedVariables false
set_option linter.unusedSimpArgs false

/-! what is nearest -/
theorem risL_perm (v : List Int) : (risL v).Perm v := List.mergeSort_perm v _
theorem risL_sorted (v : List Int) : (risL v).Pairwise (· ≤ ·) := by
  have := List.pairwise_mergeSort (le := fun x y : Int => decide (x ≤ y)) (fun a b c h1 h2 => by simp at *; omega) (fun a b => by simp; omega) v
  exact this.imp (fun h => of_decide_eq_true h)
theorem sorted_eq {a b : List Int} (ha : a.Pairwise (· ≤ ·)) (hb : b.Pairwise (· ≤ ·)) (h : a.Perm b) : a = b :=
  List.Perm.eq_of_pairwise (le := fun x y : Int => x ≤ y) (fun a b _ _ h1 h2 => by omega) ha hb h
theorem risL_risR {a b : List Int} (h : a.Perm b) : risL a = risR b := sorted_eq (risL_sorted a) (risR_in_order b) ((risL_perm a).trans (h.trans (risR_perm b).symm))
/-- what the fold keeps: one of the images' tones with the least cost -/
theorem near_fold {n : Int} {a : List Int} : ∀ (L M : List (List Int)) (st : Option (List Int × Int)), (∀ w d, st = some (w, d) → (∃ v ∈ M, w = risL v ∧ d = (bestV n a v).2) ∧ ∀ v ∈ M, d ≤ (bestV n a v).2) → (st = none → M = []) →
    ∀ w d, L.foldl (fun st v => seeS st (risL v) (bestV n a v).2) st = some (w, d) → (∃ v ∈ M ++ L, w = risL v ∧ d = (bestV n a v).2) ∧ ∀ v ∈ M ++ L, d ≤ (bestV n a v).2
  | [], M, st, h, _, w, d, e => by rw [List.append_nil]; exact h w d e
  | v :: L, M, st, h, h0, w, d, e => by
    rw [List.foldl_cons] at e
    have key : ∀ w d, seeS st (risL v) (bestV n a v).2 = some (w, d) → (∃ u ∈ M ++ [v], w = risL u ∧ d = (bestV n a u).2) ∧ ∀ u ∈ M ++ [v], d ≤ (bestV n a u).2 := by
      intro w d e
      cases st with
      | none =>
        have := h0 rfl
        subst this
        simp only [seeS, Option.some.injEq, Prod.mk.injEq] at e
        obtain ⟨rfl, rfl⟩ := e
        exact ⟨⟨v, by simp, rfl, rfl⟩, fun u hu => by simp at hu; subst hu; exact Int.le_refl _⟩
      | some p =>
        obtain ⟨w0, d0⟩ := p
        obtain ⟨⟨u0, hu0, e1, e2⟩, hmin⟩ := h w0 d0 rfl
        simp only [seeS] at e
        split at e
        · rename_i hc
          simp only [Option.some.injEq, Prod.mk.injEq] at e
          obtain ⟨rfl, rfl⟩ := e
          refine ⟨⟨v, by simp, rfl, rfl⟩, fun u hu => ?_⟩
          rcases List.mem_append.1 hu with h | h
          · have := hmin u h; omega
          · rw [List.mem_singleton] at h; subst h; exact Int.le_refl _
        · rename_i hc
          simp only [Option.some.injEq, Prod.mk.injEq] at e
          obtain ⟨rfl, rfl⟩ := e
          refine ⟨⟨u0, by simp [hu0], e1, e2⟩, fun u hu => ?_⟩
          rcases List.mem_append.1 hu with h | h
          · exact hmin u h
          · rw [List.mem_singleton] at h; subst h
            rw [not_or] at hc
            omega
    have := near_fold L (M ++ [v]) (seeS st (risL v) (bestV n a v).2) key (fun e2 => by obtain ⟨p, hp⟩ := seeS_some st (risL v) (bestV n a v).2; rw [hp] at e2; cases e2) w d e
    simpa using this
theorem img_mem {n : Nat} {b : List Int} {q k : Nat} (hq : q < 2) (hk : k < n) : imgV n b q k ∈ imgsTo n b 2 0 := by
  unfold imgsTo
  refine List.mem_append.2 (.inl (List.mem_flatMap.2 ⟨q, List.mem_range.2 hq, List.mem_map.2 ⟨k, List.mem_range.2 hk, rfl⟩⟩))
theorem mem_img {n : Nat} {b v : List Int} (h : v ∈ imgsTo n b 2 0) : ∃ q k, q < 2 ∧ k < n ∧ v = imgV n b q k := by
  unfold imgsTo at h
  rcases List.mem_append.1 h with h | h
  · obtain ⟨q, hq, h⟩ := List.mem_flatMap.1 h
    obtain ⟨k, hk, rfl⟩ := List.mem_map.1 h
    exact ⟨q, k, List.mem_range.1 hq, List.mem_range.1 hk, rfl⟩
  · simp at h
theorem near_spec {n : Nat} {a b : List Int} (h : TwoN n a b) : ∃ q k d, q < 2 ∧ k < n ∧ nearV n a b = some (risL (imgV n b q k), d) ∧ d = (bestV n a (imgV n b q k)).2 ∧ ∀ p j, p < 2 → j < n → d ≤ (bestV n a (imgV n b p j)).2 := by
  have hn := h.1.1
  obtain ⟨⟨w, d⟩, hp⟩ := nearF_some (n := (n : Int)) (a := a) (imgsTo n b 2 0) none (.inl (imgs_ne (by omega) b))
  obtain ⟨⟨v, hv, e1, e2⟩, hmin⟩ := near_fold (imgsTo n b 2 0) [] none (fun w d e => by cases e) (fun _ => rfl) w d hp
  rw [List.nil_append] at hv hmin
  obtain ⟨q, k, hq, hk, rfl⟩ := mem_img hv
  refine ⟨q, k, d, hq, hk, ?_, e2, fun p j hp hj => hmin _ (img_mem hp hj)⟩
  unfold nearV
  rw [Int.toNat_natCast, ← e1]
  exact hp
theorem img_vImg (n : Nat) (b : List Int) (q k : Nat) (hq : q < 2) : imgV n b q k = b.map (vImg n k (decide (q = 1))) := by
  unfold imgV
  refine List.map_congr_left (fun x _ => ?_)
  unfold vImg
  have : q = 0 ∨ q = 1 := by omega
  rcases this with rfl | rfl
  · simp [Int.add_comm]
  · simp [Int.add_comm]
/-- an image's image is the voicing again -/
theorem img_back {n : Nat} {a : List Int} (h : VoiN n a) (t : Bool) {K : Int} (hK : 0 ≤ K ∧ K < n) : ∃ q k, q < 2 ∧ k < n ∧ imgV n (a.map (vImg n K t)) q k = a := by
  have hn := h.1
  cases t with
  | false =>
    refine ⟨0, ((n : Int) - K).toNat % n, by omega, Nat.mod_lt _ (by omega), ?_⟩
    rw [img_vImg _ _ _ _ (by omega), List.map_map]
    refine (List.map_congr_left (g := id) (fun x hx => ?_)).trans (List.map_id a)
    have hxr := h.2.2.2.2 x hx
    simp only [Function.comp, vImg, id]
    simp only [Bool.false_eq_true, if_false, decide_eq_true_eq, show ¬ (0 : Nat) = 1 by decide]
    rw [Int.natCast_emod, Int.toNat_of_nonneg (by omega), Int.emod_add_emod, Int.add_emod_emod]
    rw [show x + K + ((n : Int) - K) = x + n by omega, Int.add_emod_right, Int.emod_eq_of_lt hxr.1 hxr.2]
  | true =>
    refine ⟨1, K.toNat, by omega, by omega, ?_⟩
    rw [img_vImg _ _ _ _ (by omega), List.map_map]
    refine (List.map_congr_left (g := id) (fun x hx => ?_)).trans (List.map_id a)
    have hxr := h.2.2.2.2 x hx
    simp only [Function.comp, vImg, id, decide_true, if_true]
    rw [Int.toNat_of_nonneg hK.1]
    have e : (-((-x + K) % (n : Int)) + K) % (n : Int) = x % (n : Int) := by
      rw [show -((-x + K) % (n : Int)) + K = K - (-x + K) % (n : Int) by omega, Int.sub_emod, Int.emod_emod, ← Int.sub_emod]
      congr 1; omega
    rw [e, Int.emod_eq_of_lt hxr.1 hxr.2]

end Go.Proofs.Ytfjafmgaahfhgaa.P
namespace Go.Proofs.Ytfjafmgaahfhgaa.P
open Go.RowKit Go.Proofs.YtfjafmgaahfhgaaW.PrintWords Go.Proofs.YtfjafmgaahfhgaaW.PrintLast Go.Proofs.YtfjafmgaahfhgaaW.PrintMore
attribute [local go_sem] max2_int min2_int max_two min_two max_three min_three max_four min_four   -- for this text's walks alone
set_option linter.unusedVariables false
set_option linter.unusedSimpArgs false

theorem cmp_less : ∀ (x y : List Int), x.length = y.length → (cmpL x y < 0 ↔ lessL6 x y = true)
  | [], [], _ => by simp [cmpL, lessL6]
  | a :: x, b :: y, h => by
    have ih := cmp_less x y (by simpa using h)
    rw [cmpL, lessL6]
    by_cases h1 : a = b
    · subst h1
      rw [if_neg (by omega), if_neg (by omega), if_pos rfl]
      exact ih
    · rw [if_neg h1]
      by_cases h2 : a < b
      · rw [if_pos h2, decide_eq_true h2]; simp
      · rw [if_neg h2, if_pos (by omega), decide_eq_false h2]; simp
  | [], _ :: _, h => by simp at h
  | _ :: _, [], h => by simp at h
theorem less_trans : ∀ (x y z : List Int), x.length = y.length → y.length = z.length → lessL6 x y = true → lessL6 y z = true → lessL6 x z = true
  | [], _, _, _, _, h, _ => by simp [lessL6] at h
  | a :: x, b :: y, c :: z, h1, h2, h, k => by
    rw [lessL6] at h k ⊢
    by_cases e1 : a = b
    · subst e1
      rw [if_pos rfl] at h
      by_cases e2 : a = c
      · subst e2
        rw [if_pos rfl] at k ⊢
        exact less_trans x y z (by simpa using h1) (by simpa using h2) h k
      · rw [if_neg e2] at k ⊢; exact k
    · rw [if_neg e1] at h
      have h := of_decide_eq_true h
      by_cases e2 : b = c
      · subst e2
        rw [if_neg e1]; exact decide_eq_true h
      · rw [if_neg e2] at k
        have k := of_decide_eq_true k
        rw [if_neg (by omega)]; exact decide_eq_true (by omega)
  | _ :: _, [], _, h1, _, _, _ => by simp at h1
  | _ :: _, _ :: _, [], _, h2, _, _ => by simp at h2
theorem near_fold2 {n : Int} {a : List Int} {m : Nat} : ∀ (L M : List (List Int)) (st : Option (List Int × Int)), (∀ v ∈ M ++ L, v.length = m) → (∀ w d, st = some (w, d) → (∃ v ∈ M, w = risL v ∧ d = (bestV n a v).2) ∧ ∀ v ∈ M, d < (bestV n a v).2 ∨ (d = (bestV n a v).2 ∧ lessL6 (risL v) w = false)) → (st = none → M = []) →
    ∀ w d, L.foldl (fun st v => seeS st (risL v) (bestV n a v).2) st = some (w, d) → (∃ v ∈ M ++ L, w = risL v ∧ d = (bestV n a v).2) ∧ ∀ v ∈ M ++ L, d < (bestV n a v).2 ∨ (d = (bestV n a v).2 ∧ lessL6 (risL v) w = false)
  | [], M, st, _, h, _, w, d, e => by rw [List.append_nil]; exact h w d e
  | v :: L, M, st, hl, h, h0, w, d, e => by
    rw [List.foldl_cons] at e
    have hvl : (risL v).length = m := by rw [risL_len]; exact hl v (by simp)
    have hself : lessL6 (risL v) (risL v) = false := ((lessL6_same _ _ rfl).2 rfl).1
    have key : ∀ w d, seeS st (risL v) (bestV n a v).2 = some (w, d) → (∃ u ∈ M ++ [v], w = risL u ∧ d = (bestV n a u).2) ∧ ∀ u ∈ M ++ [v], d < (bestV n a u).2 ∨ (d = (bestV n a u).2 ∧ lessL6 (risL u) w = false) := by
      intro w d e
      cases st with
      | none =>
        have := h0 rfl
        subst this
        simp only [seeS, Option.some.injEq, Prod.mk.injEq] at e
        obtain ⟨rfl, rfl⟩ := e
        exact ⟨⟨v, by simp, rfl, rfl⟩, fun u hu => by simp at hu; subst hu; exact .inr ⟨rfl, hself⟩⟩
      | some p =>
        obtain ⟨w0, d0⟩ := p
        obtain ⟨⟨u0, hu0, e1, e2⟩, hmin⟩ := h w0 d0 rfl
        have hw0l : w0.length = m := by rw [e1, risL_len]; exact hl u0 (by simp [hu0])
        have hcl := cmp_less (risL v) w0 (by rw [hvl, hw0l])
        simp only [seeS] at e
        split at e
        · rename_i hc
          simp only [Option.some.injEq, Prod.mk.injEq] at e
          obtain ⟨rfl, rfl⟩ := e
          refine ⟨⟨v, by simp, rfl, rfl⟩, fun u hu => ?_⟩
          rcases List.mem_append.1 hu with hu | hu
          · have hul : (risL u).length = m := by rw [risL_len]; exact hl u (by simp [hu])
            rcases hc with hc | ⟨hc, hcmp⟩
            · rcases hmin u hu with h | h
              · exact .inl (by omega)
              · exact .inl (by omega)
            · rcases hmin u hu with h | ⟨h, hn⟩
              · exact .inl (by omega)
              · refine .inr ⟨by omega, ?_⟩
                cases hx : lessL6 (risL u) (risL v) with
                | false => rfl
                | true =>
                  have := less_trans _ _ _ (by rw [hul, hvl]) (by rw [hvl, hw0l]) hx (hcl.1 hcmp)
                  rw [hn] at this; cases this
          · rw [List.mem_singleton] at hu; subst hu; exact .inr ⟨rfl, hself⟩
        · rename_i hc
          simp only [Option.some.injEq, Prod.mk.injEq] at e
          obtain ⟨rfl, rfl⟩ := e
          refine ⟨⟨u0, by simp [hu0], e1, e2⟩, fun u hu => ?_⟩
          rcases List.mem_append.1 hu with hu | hu
          · exact hmin u hu
          · rw [List.mem_singleton] at hu; subst hu
            rw [not_or] at hc
            by_cases he : (bestV n a u).2 = d0
            · refine .inr ⟨he.symm, ?_⟩
              cases hx : lessL6 (risL u) w0 with
              | false => rfl
              | true => exact absurd ⟨he, hcl.2 hx⟩ hc.2
            · exact .inl (by have := hc.1; omega)
    have := near_fold2 L (M ++ [v]) (seeS st (risL v) (bestV n a v).2) (by simpa using hl) key (fun e2 => by obtain ⟨p, hp⟩ := seeS_some st (risL v) (bestV n a v).2; rw [hp] at e2; cases e2) w d e
    simpa using this
theorem rn_fold2 {n : Int} {a : List Int} {m : Nat} : ∀ (L M : List (List Int)) (st : Option (List Int)), (∀ v ∈ M ++ L, v.length = m) → (∀ y, st = some y → y ∈ M ∧ ∀ v ∈ M, (bestV n a y).2 < (bestV n a v).2 ∨ ((bestV n a y).2 = (bestV n a v).2 ∧ lessL6 v y = false)) → (st = none → M = []) →
    ∀ y, L.foldl (rnS n a) st = some y → y ∈ M ++ L ∧ ∀ v ∈ M ++ L, (bestV n a y).2 < (bestV n a v).2 ∨ ((bestV n a y).2 = (bestV n a v).2 ∧ lessL6 v y = false)
  | [], M, st, _, h, _, y, e => by rw [List.append_nil]; exact h y e
  | v :: L, M, st, hl, h, h0, y, e => by
    rw [List.foldl_cons] at e
    have hvl : v.length = m := hl v (by simp)
    have hself : lessL6 v v = false := ((lessL6_same _ _ rfl).2 rfl).1
    have key : ∀ y, rnS n a st v = some y → y ∈ M ++ [v] ∧ ∀ u ∈ M ++ [v], (bestV n a y).2 < (bestV n a u).2 ∨ ((bestV n a y).2 = (bestV n a u).2 ∧ lessL6 u y = false) := by
      intro y e
      cases st with
      | none =>
        have := h0 rfl
        subst this
        simp only [rnS, Option.some.injEq] at e
        subst e
        exact ⟨by simp, fun u hu => by simp at hu; subst hu; exact .inr ⟨rfl, hself⟩⟩
      | some w0 =>
        obtain ⟨hu0, hmin⟩ := h w0 rfl
        have hw0l : w0.length = m := hl w0 (by simp [hu0])
        simp only [rnS] at e
        split at e
        · rename_i hc
          simp only [Option.some.injEq] at e
          subst e
          refine ⟨by simp, fun u hu => ?_⟩
          rcases List.mem_append.1 hu with hu | hu
          · have hul : u.length = m := hl u (by simp [hu])
            rcases hc with hc | ⟨hc, hcmp⟩
            · rcases hmin u hu with h | h
              · exact .inl (by omega)
              · exact .inl (by omega)
            · rcases hmin u hu with h | ⟨h, hn⟩
              · exact .inl (by omega)
              · refine .inr ⟨by omega, ?_⟩
                cases hx : lessL6 u v with
                | false => rfl
                | true =>
                  have := less_trans _ _ _ (by rw [hul, hvl]) (by rw [hvl, hw0l]) hx hcmp
                  rw [hn] at this; cases this
          · rw [List.mem_singleton] at hu; subst hu; exact .inr ⟨rfl, hself⟩
        · rename_i hc
          simp only [Option.some.injEq] at e
          subst e
          refine ⟨by simp [hu0], fun u hu => ?_⟩
          rcases List.mem_append.1 hu with hu | hu
          · exact hmin u hu
          · rw [List.mem_singleton] at hu; subst hu
            rw [not_or] at hc
            by_cases he : (bestV n a u).2 = (bestV n a w0).2
            · refine .inr ⟨he.symm, ?_⟩
              cases hx : lessL6 u w0 with
              | false => rfl
              | true => exact absurd ⟨he, hx⟩ hc.2
            · exact .inl (by have := hc.1; omega)
    have := rn_fold2 L (M ++ [v]) (rnS n a st v) (by simpa using hl) key (fun e2 => by obtain ⟨p, hp, _⟩ := rnS_some n a st v; rw [hp] at e2; cases e2) y e
    simpa using this
theorem rimgs_in {n : Nat} {b : List Int} {p q : Nat} (hp : p < n) (hq : q < 2) : rimg n b p q ∈ rimgs n b n 0 := by
  unfold rimgs
  exact List.mem_append.2 (.inl (List.mem_flatMap.2 ⟨p, List.mem_range.2 hp, List.mem_map.2 ⟨q, List.mem_range.2 hq, rfl⟩⟩))
theorem in_rimgs {n : Nat} {b v : List Int} (h : v ∈ rimgs n b n 0) : ∃ p q, p < n ∧ q < 2 ∧ v = rimg n b p q := by
  unfold rimgs at h
  rcases List.mem_append.1 h with h | h
  · obtain ⟨p, hp, h⟩ := List.mem_flatMap.1 h
    obtain ⟨q, hq, rfl⟩ := List.mem_map.1 h
    exact ⟨p, q, List.mem_range.1 hp, List.mem_range.1 hq, rfl⟩
  · simp at h
theorem ris_rimg {n : Nat} {b : List Int} {q k : Nat} (hq : q < 2) : risL (imgV n b q k) = rimg n b k q := by
  unfold rimg
  rw [img_vImg _ _ _ _ hq]
  exact risL_risR (List.Perm.refl _)
/-- both ways find the same -/
theorem near_both {n : Nat} {a b : List Int} (h : TwoN n a b) : ∃ w d, nearV n a b = some (w, d) ∧ rnV n a b = some w ∧ d = (bestV n a w).2 := by
  have hn := h.1.1
  obtain ⟨⟨w, d⟩, hp⟩ := nearF_some (n := (n : Int)) (a := a) (imgsTo n b 2 0) none (.inl (imgs_ne (by omega) b))
  obtain ⟨⟨v, hv, e1, e2⟩, hmin⟩ := near_fold2 (m := b.length) (imgsTo n b 2 0) [] none (fun v hv => imgsTo_len v (by simpa using hv)) (fun w d e => by cases e) (fun _ => rfl) w d hp
  rw [List.nil_append] at hv hmin
  obtain ⟨q, k, hq, hk, rfl⟩ := mem_img hv
  have hrl : ∀ v ∈ rimgs n b n 0, v.length = b.length := fun v hv => by
    obtain ⟨p, q, _, _, rfl⟩ := in_rimgs hv
    have := (rimg_two h p q).2.2
    rw [← this, h.2.2]
  obtain ⟨y, hy⟩ := rnF_some (n := (n : Int)) (a := a) (rimgs n b n 0) none (.inl (List.ne_nil_of_mem (rimgs_in (b := b) (show 0 < n by omega) (show 0 < 2 by omega))))
  obtain ⟨hym, hymin⟩ := rn_fold2 (m := b.length) (rimgs n b n 0) [] none (fun v hv => hrl v (by simpa using hv)) (fun y e => by cases e) (fun _ => rfl) y hy
  rw [List.nil_append] at hym hymin
  obtain ⟨p, j, hp1, hj1, hyr⟩ := in_rimgs hym
  have hw : w = rimg n b k q := by rw [e1]; exact ris_rimg hq
  have hdw : d = (bestV n a w).2 := by
    rw [e2, e1]
    exact (cost_both (img_two h q k) (List.Perm.refl a) (risL_perm _)).symm
  have h1 := hmin (imgV n b j p) (img_mem hj1 hp1)
  rw [ris_rimg hj1, ← hyr] at h1
  have hcy : (bestV (n : Int) a (imgV n b j p)).2 = (bestV n a y).2 := by
    rw [hyr, ← ris_rimg hj1]
    exact (cost_both (img_two h j p) (List.Perm.refl a) (risL_perm _)).symm
  rw [hcy] at h1
  have h2 := hymin w (by rw [hw]; exact rimgs_in hk hq)
  rw [← hdw] at h2
  have hwy : w = y := by
    have hl : w.length = y.length := by
      rw [hrl y hym, hw]
      exact hrl _ (rimgs_in hk hq)
    refine (lessL6_same w y hl).1 ⟨?_, ?_⟩
    · rcases h2 with h2 | h2
      · rcases h1 with h1 | h1
        · omega
        · omega
      · exact h2.2
    · rcases h1 with h1 | h1
      · rcases h2 with h2 | h2
        · omega
        · omega
      · exact h1.2
  refine ⟨w, d, ?_, ?_, hdw⟩
  · unfold nearV; rw [Int.toNat_natCast]; exact hp
  · unfold rnV; rw [Int.toNat_natCast, hwy]; exact hy
theorem VoicesNear : sackbutlaw06_VoicesNear.Pure := by
  intro n0 a b _ ha1 _ _ hb1 _ _
  have hM : maxLen = 9223372036854775807 := rfl
  refine Ev.rounds (g := fun q => sackbutlaw06_VoicesNear.f q n0 a b) ?_
  unfold sackbutlaw06_VoicesNear.f
  by_cases h : TwoN n0 a b
  · obtain ⟨n, rfl⟩ : ∃ n : Nat, n0 = (n : Int) := ⟨n0.toNat, by have := h.1.1; omega⟩
    have hal := h.1.2.2.2.1
    have hbl := h.2.1.2.2.2.1
    obtain ⟨w, d, hw, hr, hd⟩ := near_both h
    have hN : voices_Near.f (n : Int) a b = some (w, d, 0) := by unfold voices_Near.f; rw [if_pos h, hw]; rfl
    have hR : sackbutref06_Near.f (n : Int) a b = some (w, d) := by unfold sackbutref06_Near.f; rw [if_pos h, hr, hd]; rfl
    refine Ev.bind_some (list9_f a) ?_
    refine Ev.bind_some (list9_f b) ?_
    rw [voi_take9 h.1, voi_take9 h.2.1]
    refine Ev.bind_some hN ?_
    refine Ev.bind (refTwo_ev n a b (by omega) (by omega)) ?_
    simp only [h, decide_true, if_true]
    refine Ev.bind_some hR ?_
    have hwl : w.length < 9223372036854775807 := by
      have := near_spec h
      obtain ⟨q, k, d', _, _, h1, _, _⟩ := this
      rw [hw] at h1
      simp only [Option.some.injEq, Prod.mk.injEq] at h1
      rw [h1.1, risL_len, imgV_len]; omega
    refine Ev.bind (Equal_ev w w hwl) ?_
    rw [decide_eq_true rfl]
    simp only [if_true]
    exact Ev.bind_some awake_f (Ev.some _)
  · have h9 : ¬ TwoN n0 (a.take 9) (b.take 9) := fun h3 => h ((two_take n0 a b).1 h3)
    have hN : voices_Near.f n0 (a.take 9) (b.take 9) = some ([], 0, 2) := by unfold voices_Near.f; rw [if_neg h9]
    refine Ev.bind_some (list9_f a) ?_
    refine Ev.bind_some (list9_f b) ?_
    refine Ev.bind_some hN ?_
    refine Ev.bind (refTwo_ev n0 a b (by omega) (by omega)) ?_
    simp only [h, decide_false, Bool.false_eq_true, if_false]
    simp only [List.length_nil, if_true]
    exact Ev.bind_some awake_f (Ev.some _)

end Go.Proofs.Ytfjafmgaahfhgaa.P
namespace Go.Proofs.Ytfjafmgaahfhgaa.Pure
theorem VoicesNear : Go.Proofs.Ytfjafmgaahfhgaa.P.sackbutlaw06_VoicesNear.Pure := Go.Proofs.Ytfjafmgaahfhgaa.P.VoicesNear
end Go.Proofs.Ytfjafmgaahfhgaa.Pure
namespace Go.Proofs.Ytfjafmgaahfhgaa.voicesNear
open Go.ChangeShapes Go.WideShapes Go.ChangeAt Go.RowKit
open Go.ChangeMaps (open_string shut_string)
set_option linter.unusedVariables false
theorem own : ownKnob Try.prog.godebug = none := by kernel_rfl
theorem laidOut : laidOutB Try.prog = true := by kernel_rfl
def IsRow (k : IntKind) (w : World) (a : Option Addr) (len cap : Nat) (zs : List Int) : Prop :=
  (a = none ∧ len = 0 ∧ cap = 0 ∧ zs = []) ∨
  ∃ x, a = some x ∧ len ≤ cap ∧ cap ≤ maxLen ∧ zs.length = cap ∧ (∀ i, i < zs.length → w.cell? (x.add i) = some (.int k (zs.getD i 0))) ∧ ∀ n ∈ zs, (Lit.int k n).wf = true
set_option maxRecDepth 100000 in
theorem lifted (os : Os) (started : os.Started) (H : Type) (enc : TypeId × Value → H) :
    ReturnsInHanded {} Try.checked os 6 .any (Rows.voicesNearSpec.pre6 enc Try.prog Try.f6 Rows.voicesNearRow.domain false) (Rows.voicesNearSpec.post enc Try.prog Try.f6 false true false false) := by
  refine returnsInHanded_of_change_sized (C := Try.checked) own started (by kernel_rfl) Try.func6
    (ChangeSpec.witness6 (enc := enc) (C := Try.checked) false ⟨#[], #[.int .i64 0, .slice none 0 0, .slice none 0 0], []⟩ 8 (by kernel_rfl) (by kernel_rfl) (by kernel_rfl) (by kernel_rfl)) ?_
  intro W base args ds gs before hval0 hW hcnd hsz0 _
  have hsz : (DataW.weightsEach Try.prog (Try.f6.params.toList ++ Rows.voicesNearSpec.plain.varTypes Try.prog) (ds ++ gs)).all (· ≤ reachBytes) = true := hsz0
  have hval : ∀ (j : Nat) t v, Try.f6.params[j]? = some t → args[j]? = some v → Value.okWide Try.prog W .any base t v := hval0
  have hW' := hW
  obtain ⟨p, q, hA0, hV, rfl, hfz, hnd⟩ := hW
  have hA : DataW.TrodAll enc Try.prog W 0 (fun _ => true) true Try.f6.params.toList args.toList ds p := hA0
  rw [Try.params6] at hA hval hsz
  obtain ⟨v0, vs0, d0, ds0, p0, q0, hargs, rfl, rfl, h0, r0⟩ := trodAll_cons hA
  obtain ⟨v1, vs1, d1, ds1, p1, q1, rfl, rfl, rfl, h1, r1⟩ := trodAll_cons r0
  obtain ⟨v2, vs2, d2, ds2, p2, q2, rfl, rfl, rfl, h2, r2⟩ := trodAll_cons r1
  obtain ⟨rfl, rfl, rfl⟩ := trodAll_nil r2
  obtain rfl : args = #[v0, v1, v2] := by cases args; simp_all
  obtain ⟨rfl, rfl⟩ := trodVars_none hV
  obtain ⟨a0, rfl, rfl, rfl, w0⟩ := open_int Try.underlying3 (hval 0 3 v0 rfl rfl) h0
  obtain ⟨a1, len1, cap1, rfl⟩ := okWide_slice Try.underlying23 (hval 1 23 v1 rfl rfl)
  have k1 := h1
  have lt1 : ∀ x ∈ p1, x.block < W.heap.size := by obtain ⟨m, hm⟩ := k1; exact DataW.trod_lt m _ _ _ hm
  obtain ⟨z1, w1⟩ : ∃ zs, IsRow .i64 W a1 len1 cap1 zs := by
    obtain ⟨fuel, hf⟩ := h1
    rcases open_ints Try.underlying23 Try.underlying3 (by kernel_rfl) hf with ⟨hcs, _⟩ | ⟨x, l, c, zs, hcs, _, hl, hm, hz, _, hcell, hwz⟩
    · simp [Value.cells] at hcs
      obtain ⟨rfl, rfl, rfl⟩ := hcs
      exact ⟨[], .inl ⟨rfl, rfl, rfl, rfl⟩⟩
    · simp [Value.cells] at hcs
      obtain ⟨rfl, rfl, rfl⟩ := hcs
      exact ⟨zs, .inr ⟨_, rfl, hl, hm, by simpa using hz, hcell, hwz⟩⟩
  have y1 : len1 * 8 ≤ 140737488351232 := Go.Proofs.YtfjafmgaahfhgaaW.PrintWords.sized_ints hsz (j := 1) (t := 23) rfl rfl Try.underlying23 Try.underlying3 (by kernel_rfl) (by kernel_rfl) h1
  obtain ⟨a2, len2, cap2, rfl⟩ := okWide_slice Try.underlying23 (hval 2 23 v2 rfl rfl)
  have k2 := h2
  have lt2 : ∀ x ∈ p2, x.block < W.heap.size := by obtain ⟨m, hm⟩ := k2; exact DataW.trod_lt m _ _ _ hm
  obtain ⟨z2, w2⟩ : ∃ zs, IsRow .i64 W a2 len2 cap2 zs := by
    obtain ⟨fuel, hf⟩ := h2
    rcases open_ints Try.underlying23 Try.underlying3 (by kernel_rfl) hf with ⟨hcs, _⟩ | ⟨x, l, c, zs, hcs, _, hl, hm, hz, _, hcell, hwz⟩
    · simp [Value.cells] at hcs
      obtain ⟨rfl, rfl, rfl⟩ := hcs
      exact ⟨[], .inl ⟨rfl, rfl, rfl, rfl⟩⟩
    · simp [Value.cells] at hcs
      obtain ⟨rfl, rfl, rfl⟩ := hcs
      exact ⟨zs, .inr ⟨_, rfl, hl, hm, by simpa using hz, hcell, hwz⟩⟩
  have y2 : len2 * 8 ≤ 140737488351232 := Go.Proofs.YtfjafmgaahfhgaaW.PrintWords.sized_ints hsz (j := 2) (t := 23) rfl rfl Try.underlying23 Try.underlying3 (by kernel_rfl) (by kernel_rfl) h2
  clear hA0 hval0 hsz0 hsz
  refine (P.sackbutlaw06_VoicesNear.walk Pure.VoicesNear a0 a1 len1 cap1 z1 a2 len2 cap2 z2 W w0 w1 y1 w2 y2).mono fun e W' ⟨he, bel⟩ => ?_
  subst he
  exact ⟨_, rfl, _, _, _, [], _, [], hW', trodAll_mk1 (shut_bool Try.underlying4 _), (trodAll_cons_mk (shut_int Try.underlying3 w0) (trodAll_cons_mk (Below.trod laidOut (by kernel_rfl) (of_decide_eq_true (by kernel_rfl)) k1 bel lt1) (trodAll_cons_mk (Below.trod laidOut (by kernel_rfl) (of_decide_eq_true (by kernel_rfl)) k2 bel lt2) trodAll_mk0))), rfl, bel.frame _, fun h => by cases h⟩
theorem over : Rows.voicesNearRow.holds Try.pinned (OpenSpec.ofChange Rows.voicesNearSpec) :=
  OpenClaim.holds_of_wide 6 Try.f6 rfl rfl rfl rfl rfl rfl rfl ⟨rfl, rfl, rfl, rfl, rfl⟩ rfl rfl rfl rfl rfl (by kernel_rfl) Try.func6 (by kernel_rfl)
    (of_decide_eq_true (by kernel_rfl)) (by unfold Func.isWrapper; first | (rw [if_pos (by decide +kernel)]; kernel_rfl) | (rw [if_neg (by decide +kernel)]; exact ⟨rfl, rfl⟩))
    (fun os started H enc _ => lifted os started H enc)
theorem proved : Rows.VoicesNearSaid := over
#print axioms proved
end Go.Proofs.Ytfjafmgaahfhgaa.voicesNear
namespace Go.Proofs.Ytfjafmgaahfhgaa
/-- The row, under a short name, for the claim. -/
theorem voicesNear_holds : Rows.VoicesNearSaid := voicesNear.proved
end Go.Proofs.Ytfjafmgaahfhgaa
