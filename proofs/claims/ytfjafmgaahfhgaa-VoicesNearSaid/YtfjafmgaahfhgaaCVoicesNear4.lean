/- A part of a proof that a law's Go function returns true for every input, laid by this session's program mp.py (which drives the kit's print). Conditions: as each theorem states them. -/
import Derived.StillTailTactics
import Derived.Laws.EntriesVeiled
import Derived.Test.YtfjafmgaahfhgaaCVoicesNear1
import Derived.Test.YtfjafmgaahfhgaaCVoicesNear2
import Derived.Test.YtfjafmgaahfhgaaCVoicesNear3
namespace Go.Proofs.Ytfjafmgaahfhgaa.P
/-! Two rhythms on a circle: how often each beat is met. Plain Lean. -/
theorem cnt_zero (p : Nat → Bool) : cnt 0 p = 0 := by simp [cnt_eq]
theorem cnt_succ (n : Nat) (p : Nat → Bool) : cnt (n + 1) p = cnt n p + if p n then 1 else 0 := by
  simp only [cnt_eq]
  rw [List.range_succ, List.countP_append, List.countP_singleton]
theorem cnt_mono (p : Nat → Bool) {m n : Nat} (h : m ≤ n) : cnt m p ≤ cnt n p := by
  induction n with
  | zero => obtain rfl : m = 0 := by omega
            exact Nat.le_refl _
  | succ n ih =>
    rcases Nat.lt_or_ge n m with h1 | h1
    · obtain rfl : m = n + 1 := by omega
      exact Nat.le_refl _
    · rw [cnt_succ]; have := ih h1; omega
theorem cnt_pos {p : Nat → Bool} {n y : Nat} (hy : y < n) (h : p y = true) : 1 ≤ cnt n p := by
  have h1 := cnt_mono p (show y + 1 ≤ n by omega)
  rw [cnt_succ, h, if_pos rfl] at h1
  omega
theorem cnt_two {p : Nat → Bool} {n y z : Nat} (hz : z < n) (hyz : y < z) (h : p y = true) (h' : p z = true) : 2 ≤ cnt n p := by
  have h1 := cnt_mono p (show z + 1 ≤ n by omega)
  have h2 := cnt_pos hyz h
  rw [cnt_succ, h', if_pos rfl] at h1
  omega
/-- of those that are counted there is a first one -/
theorem cnt_first {p : Nat → Bool} : ∀ n, 1 ≤ cnt n p → ∃ y, y < n ∧ p y = true ∧ ∀ z, z < y → p z = false
  | 0, h => by rw [cnt_zero] at h; omega
  | n + 1, h => by
    rcases Nat.lt_or_ge 0 (cnt n p) with h1 | h1
    · obtain ⟨y, hy, h2, h3⟩ := cnt_first n h1
      exact ⟨y, by omega, h2, h3⟩
    · rw [cnt_succ] at h
      refine ⟨n, by omega, ?_, ?_⟩
      · cases hp : p n with
        | true => rfl
        | false => rw [hp] at h; simp at h; omega
      · intro z hz
        cases hp : p z with
        | false => rfl
        | true => have := cnt_pos hz hp; omega
theorem cnt_one {p : Nat → Bool} {n y z : Nat} (h1 : cnt n p = 1) (hy : y < n) (hz : z < n) (h : p y = true) (h' : p z = true) : y = z := by
  rcases Nat.lt_trichotomy y z with c | c | c
  · have := cnt_two hz c h h'; omega
  · exact c
  · have := cnt_two hy c h' h; omega
/-- how many of the first d beats of b bring x -/
noncomputable def cv (n a b d x : Nat) : Nat := cnt d (fun y => b.testBit y && (moveN n a y).testBit x)
theorem cv_succ (n a b d x : Nat) : cv n a b (d + 1) x = cv n a b d x + if b.testBit d && (moveN n a d).testBit x then 1 else 0 := cnt_succ _ _
theorem cv_zero (n a b x : Nat) : cv n a b 0 x = 0 := cnt_zero _
theorem cv_sum {n a b : Nat} (ha : a < 2 ^ n) : sumTo (cv n a b n) n = chSize n a * chSize n b := by
  have h1 : sumTo (cv n a b n) n = sumTo (fun x => sumTo (fun y => if b.testBit y && (moveN n a y).testBit x then 1 else 0) n) n :=
    sumTo_congr n (fun x _ => by unfold cv; rw [cnt_sumTo])
  have h2 : ∀ y, y < n → sumTo (fun x => if b.testBit y && (moveN n a y).testBit x then 1 else 0) n = (if b.testBit y then 1 else 0) * chSize n a := by
    intro y hy
    cases hb : b.testBit y with
    | false => simp only [Bool.false_and, Bool.false_eq_true, if_false, Nat.zero_mul]; exact sumTo_zero n (fun _ _ => rfl)
    | true =>
      simp only [Bool.true_and, if_true, Nat.one_mul]
      rw [← cnt_sumTo, chSize_cnt, ← cnt_shift (n - y) a.testBit]
      exact cnt_congr (fun x hx => testBit_moveN ha hy hx)
  rw [h1, sumTo_swap, sumTo_congr n h2, sumTo_mul, ← cnt_sumTo, ← chSize_cnt, Nat.mul_comm]
def filled (n a b : Nat) : Nat → Nat
  | 0 => 0
  | d + 1 => if b.testBit d then filled n a b d ||| moveN n a d else filled n a b d
theorem filled_lt (n a b : Nat) : ∀ d, filled n a b d < 2 ^ n
  | 0 => Nat.two_pow_pos n
  | d + 1 => by
    have h := filled_lt n a b d
    simp only [filled]
    split
    · exact Nat.or_lt_two_pow h (moveN_lt n a d)
    · exact h
theorem filled_bit (n a b x : Nat) : ∀ d, (filled n a b d).testBit x = decide (1 ≤ cv n a b d x)
  | 0 => by rw [cv_zero]; simp [filled]
  | d + 1 => by
    have h := filled_bit n a b x d
    rw [cv_succ]
    simp only [filled]
    cases hb : b.testBit d with
    | false => simp [h]
    | true =>
      simp only [if_true, Nat.testBit_or, h, Bool.true_and]
      cases hm : (moveN n a d).testBit x with
      | true => simp
      | false => simp
theorem fillsAll_iff {n F : Nat} (hF : F < 2 ^ n) : F = 2 ^ n - 1 ↔ ∀ x, x < n → F.testBit x = true := by
  constructor
  · rintro rfl x hx
    rw [Nat.testBit_two_pow_sub_one]; simp [hx]
  · intro h
    have := Nat.two_pow_pos n
    refine bits_ext (n := n) hF (by omega) (fun i hi => ?_)
    rw [h i hi, Nat.testBit_two_pow_sub_one]; simp [hi]
theorem sumTo_ge {f : Nat → Nat} : ∀ m, (∀ i, i < m → 1 ≤ f i) → m ≤ sumTo f m
  | 0, _ => Nat.zero_le _
  | m + 1, h => by
    have h1 := sumTo_ge m (fun i hi => h i (by omega)); have h2 := h m (by omega)
    simp only [sumTo]; omega
theorem sumTo_tight {f : Nat → Nat} : ∀ m, (∀ i, i < m → 1 ≤ f i) → sumTo f m = m → ∀ i, i < m → f i = 1
  | 0, _, _, i, hi => by omega
  | m + 1, h, hs, i, hi => by
    have h1 := sumTo_ge m (fun i hi => h i (by omega)); have h2 := h m (by omega)
    simp only [sumTo] at hs
    rcases Nat.lt_or_ge i m with c | c
    · exact sumTo_tight m (fun i hi => h i (by omega)) (by omega) i c
    · obtain rfl : i = m := by omega
      omega
theorem sumTo_one {f : Nat → Nat} : ∀ m, (∀ i, i < m → f i = 1) → sumTo f m = m
  | 0, _ => rfl
  | m + 1, h => by simp only [sumTo, sumTo_one m (fun i hi => h i (by omega)), h m (by omega)]
/-- two rhythms fill the circle -/
def Tiled (n a b : Nat) : Prop := ∀ x, x < n → cv n a b n x = 1
noncomputable instance (n a b : Nat) : Decidable (Tiled n a b) := Classical.propDecidable _
theorem tiled_iff {n a b : Nat} (ha : a < 2 ^ n) : (chSize n a * chSize n b = n ∧ filled n a b n = 2 ^ n - 1) ↔ Tiled n a b := by
  rw [fillsAll_iff (filled_lt n a b n), ← cv_sum ha]
  constructor
  · rintro ⟨h1, h2⟩
    refine sumTo_tight n (fun x hx => ?_) h1
    have := h2 x hx
    rw [filled_bit] at this
    simpa using this
  · intro h
    refine ⟨sumTo_one n h, fun x hx => ?_⟩
    rw [filled_bit, h x hx]; rfl
theorem tiled_size {n a b : Nat} (ha : a < 2 ^ n) (h : Tiled n a b) : chSize n a * chSize n b = n := ((tiled_iff ha).2 h).1
theorem filled_apart {n a b d : Nat} (h : ∀ x, x < n → cv n a b d x ≤ 1) (hb : b.testBit d = true) (hf : filled n a b d &&& moveN n a d = 0) : ∀ x, x < n → cv n a b (d + 1) x ≤ 1 := by
  intro x hx
  rw [cv_succ, hb, Bool.true_and]
  have h1 := h x hx
  have h2 : (filled n a b d &&& moveN n a d).testBit x = false := by rw [hf]; simp
  rw [Nat.testBit_and, filled_bit] at h2
  cases hm : (moveN n a d).testBit x with
  | false => simp; omega
  | true =>
    rw [hm, Bool.and_true, decide_eq_false_iff_not] at h2
    simp; omega
theorem filled_meet {n a b d : Nat} (hd : d < n) (hb : b.testBit d = true) (hf : ¬ filled n a b d &&& moveN n a d = 0) : ¬ Tiled n a b := by
  intro ht
  have hl : filled n a b d &&& moveN n a d < 2 ^ n := Nat.lt_of_le_of_lt Nat.and_le_left (filled_lt n a b d)
  refine hf (bits_ext (n := n) hl (Nat.two_pow_pos n) (fun x hx => ?_))
  rw [Nat.zero_testBit]
  cases h2 : (filled n a b d &&& moveN n a d).testBit x with
  | false => rfl
  | true =>
    rw [Nat.testBit_and, filled_bit, Bool.and_eq_true, decide_eq_true_eq] at h2
    have h3 := cnt_mono (fun y => b.testBit y && (moveN n a y).testBit x) (show d + 1 ≤ n by omega)
    have h4 := ht x hx
    have h5 := cv_succ n a b d x
    rw [hb, h2.2] at h5
    simp at h5
    unfold cv at *
    omega
theorem filled_end {n a b : Nat} (h : ∀ x, x < n → cv n a b n x ≤ 1) : filled n a b n = 2 ^ n - 1 ↔ Tiled n a b := by
  rw [fillsAll_iff (filled_lt n a b n)]
  constructor
  · intro h1 x hx
    have := h1 x hx
    rw [filled_bit] at this
    have h2 : 1 ≤ cv n a b n x := by simpa using this
    have := h x hx
    omega
  · intro h1 x hx
    rw [filled_bit, h1 x hx]; rfl
theorem filled_step_not {n a b d : Nat} (h : ∀ x, x < n → cv n a b d x ≤ 1) (hb : ¬ b.testBit d = true) : ∀ x, x < n → cv n a b (d + 1) x ≤ 1 := by
  intro x hx
  rw [cv_succ]
  have := h x hx
  simp only [Bool.not_eq_true] at hb
  rw [hb]; simpa using this
/-- the one entry that brings a beat -/
theorem tiled_enter {n a b x : Nat} (ht : Tiled n a b) (hx : x < n) : ∃ y, y < n ∧ b.testBit y = true ∧ (moveN n a y).testBit x = true ∧ (∀ z, z < y → ¬ (b.testBit z = true ∧ (moveN n a z).testBit x = true)) ∧ ∀ z, z < n → b.testBit z = true → (moveN n a z).testBit x = true → z = y := by
  have h1 : cnt n (fun y => b.testBit y && (moveN n a y).testBit x) = 1 := ht x hx
  obtain ⟨y, hy, hp, hq⟩ := cnt_first n (show 1 ≤ cnt n (fun y => b.testBit y && (moveN n a y).testBit x) by omega)
  have hp' := hp
  simp only [Bool.and_eq_true] at hp'
  refine ⟨y, hy, hp'.1, hp'.2, fun z hz h => ?_, fun z hz h h' => ?_⟩
  · have := hq z hz
    simp only [h.1, h.2, Bool.and_self] at this
    cases this
  · exact cnt_one h1 hz hy (by simp only [h, h', Bool.and_self]) hp
end Go.Proofs.Ytfjafmgaahfhgaa.P
namespace Go.Proofs.Ytfjafmgaahfhgaa.P
open Go.RowKit Go.Proofs.YtfjafmgaahfhgaaW.PrintWords Go.Proofs.YtfjafmgaahfhgaaW.PrintLast Go.Proofs.YtfjafmgaahfhgaaW.PrintMore
attribute [local go_sem] max2_int min2_int max_two min_two max_three min_three max_four min_four   -- for this text's walks alone
set_option linter.unusedVariables false
set_option linter.unusedSimpArgs false

/-! voices.Near: the nearest image -/
/-- an image: turned or not, moved by k -/
def imgV (n : Nat) (b : List Int) (q k : Nat) : List Int := b.map fun x => ((k : Int) + (if q = 0 then 1 else -1) * x) % (n : Int)
def imgsTo (n : Nat) (b : List Int) (q k : Nat) : List (List Int) := ((List.range q).flatMap fun p => (List.range n).map fun j => imgV n b p j) ++ (List.range k).map fun j => imgV n b q j
theorem imgsTo_next (n : Nat) (b : List Int) (q k : Nat) : imgsTo n b q (k + 1) = imgsTo n b q k ++ [imgV n b q k] := by
  unfold imgsTo; rw [List.range_succ, List.map_append]; simp
theorem imgsTo_turn (n : Nat) (b : List Int) (q : Nat) : imgsTo n b q n = imgsTo n b (q + 1) 0 := by
  unfold imgsTo; rw [List.range_succ]; simp
def risL (v : List Int) : List Int := v.mergeSort fun x y => decide (x ≤ y)
def nearF (n : Int) (a : List Int) (L : List (List Int)) : Option (List Int × Int) := L.foldl (fun st v => seeS st (risL v) (bestV n a v).2) none
theorem nearF_snoc (n : Int) (a : List Int) (L : List (List Int)) (v : List Int) : nearF n a (L ++ [v]) = seeS (nearF n a L) (risL v) (bestV n a v).2 := by unfold nearF; rw [List.foldl_append]; rfl
def nearV (n : Int) (a b : List Int) : Option (List Int × Int) := nearF n a (imgsTo n.toNat b 2 0)
theorem near_new (W : World) (t1 t2 : TypeId) (W3 : World) (h : (W.alloc (.cells #[.slice none 0 0, .int .i64 0] t1)).alloc (.cells #[.int .i64 1, .int .i64 (-1)] t2) = W3) :
    W3.heap[W.heap.size]? = some (.cells #[.slice none 0 0, .int .i64 0] t1) ∧ W3.heap[W.heap.size + 1]? = some (.cells #[.int .i64 1, .int .i64 (-1)] t2) ∧ Below W.heap.size W W3 ∧ W3.heap.size = W.heap.size + 2 := by
  subst h
  have h1 := World.alloc_heap_new W (.cells #[.slice none 0 0, .int .i64 0] t1)
  have h2 := World.alloc_heap_new (W.alloc (.cells #[.slice none 0 0, .int .i64 0] t1)) (.cells #[.int .i64 1, .int .i64 (-1)] t2)
  rw [World.size_alloc] at h2
  exact ⟨(Below.heap_alloc _ _ _ (by rw [World.size_alloc]; omega)).trans h1, h2, below_alloc (below_alloc (Below.refl _ _) _) _, by simp [World.size_alloc]⟩
theorem two_cells9 {W : World} {b : Nat} {u v : Value} {t : TypeId} (h : W.heap[b]? = some (.cells #[u, v] t)) : W.cell? ⟨b, 0, none⟩ = some u ∧ W.cell? ⟨b, 1, none⟩ = some v := by
  constructor <;> (unfold World.cell?; simp only [h]; simp)
theorem frozen_cells9 {W : World} {b i : Nat} {cs : Array Value} {t : TypeId} (h : W.heap[b]? = some (.cells cs t)) : W.frozen? ⟨b, i, none⟩ = false := by
  unfold World.frozen?; simp only [h]; simp
theorem see_move {S base : Nat} {st : Option (List Int × Int)} {W W' : World} (h : SeeJ S base st W) (hf : Fr (fun i => i < W.heap.size) W W') : SeeJ S base st W' := by
  obtain ⟨f0, f1, hst⟩ := h
  cases st with
  | none =>
    have hl : S < W.heap.size := World.block_lt_of_cell? W _ hst.1
    exact ⟨(hf.frozen hl 0).trans f0, (hf.frozen hl 1).trans f1, (hf.cell hl 0).trans hst.1, (hf.cell hl 1).trans hst.2⟩
  | some p =>
    obtain ⟨v, c⟩ := p
    obtain ⟨ad, cap, c0, c1, hR⟩ := hst
    have hl : S < W.heap.size := World.block_lt_of_cell? W _ c0
    exact ⟨(hf.frozen hl 0).trans f0, (hf.frozen hl 1).trans f1, ad, cap, (hf.cell hl 0).trans c0, (hf.cell hl 1).trans c1, Kd.R_mono (Kd.R_move (Kd.R_bound hR) (fun i hi => hf.block i hi.2.2.1)) (fun i hi => hi.1)⟩
theorem seeS_some (st : Option (List Int × Int)) (v : List Int) (c : Int) : ∃ p, seeS st v c = some p := by
  cases st with
  | none => exact ⟨_, rfl⟩
  | some p => obtain ⟨w, d⟩ := p; simp only [seeS]; split <;> exact ⟨_, rfl⟩
theorem nearF_some {n : Int} {a : List Int} : ∀ (L : List (List Int)) (st : Option (List Int × Int)), (L ≠ [] ∨ st ≠ none) → ∃ p, L.foldl (fun st v => seeS st (risL v) (bestV n a v).2) st = some p
  | [], st, h => by
    cases st with
    | none => simp at h
    | some p => exact ⟨p, rfl⟩
  | v :: L, st, _ => by
    rw [List.foldl_cons]
    obtain ⟨p, hp⟩ := seeS_some st (risL v) (bestV n a v).2
    exact nearF_some L _ (.inr (by rw [hp]; simp))
theorem imgs_ne {n : Nat} (h : 2 ≤ n) (b : List Int) : imgsTo n b 2 0 ≠ [] := by
  intro e
  have := congrArg List.length e
  unfold imgsTo at this
  simp [List.range_succ] at this
  omega
theorem risL_len (v : List Int) : (risL v).length = v.length := by unfold risL; exact List.length_mergeSort _
theorem imgV_len (n : Nat) (b : List Int) (q k : Nat) : (imgV n b q k).length = b.length := by unfold imgV; exact List.length_map _
theorem nearF_len {n : Int} {a : List Int} {m : Nat} : ∀ (L : List (List Int)) (st : Option (List Int × Int)), (∀ v ∈ L, v.length = m) → (∀ w d, st = some (w, d) → w.length = m) → ∀ w d, L.foldl (fun st v => seeS st (risL v) (bestV n a v).2) st = some (w, d) → w.length = m
  | [], st, _, hs, w, d, h => hs w d h
  | v :: L, st, hL, hs, w, d, h => by
    rw [List.foldl_cons] at h
    refine nearF_len L _ (fun v hv => hL v (by simp [hv])) (fun w d h => ?_) w d h
    have hv := hL v (by simp)
    cases st with
    | none => simp only [seeS, Option.some.injEq, Prod.mk.injEq] at h; rw [← h.1, risL_len]; exact hv
    | some p =>
      obtain ⟨w0, d0⟩ := p
      simp only [seeS] at h
      split at h
      · simp only [Option.some.injEq, Prod.mk.injEq] at h; rw [← h.1, risL_len]; exact hv
      · simp only [Option.some.injEq, Prod.mk.injEq] at h; rw [← h.1]; exact hs w0 d0 rfl
theorem imgsTo_len {n : Nat} {b : List Int} {q k : Nat} : ∀ v ∈ imgsTo n b q k, v.length = b.length := by
  intro v hv
  unfold imgsTo at hv
  rcases List.mem_append.1 hv with h | h
  · obtain ⟨p, _, h⟩ := List.mem_flatMap.1 h
    obtain ⟨j, _, rfl⟩ := List.mem_map.1 h
    exact imgV_len _ _ _ _
  · obtain ⟨j, _, rfl⟩ := List.mem_map.1 h
    exact imgV_len _ _ _ _
theorem img_two {n : Nat} {a b : List Int} (h : TwoN n a b) (q k : Nat) : TwoN n a (imgV n b q k) := by
  refine ⟨h.1, ⟨h.2.1.1, h.2.1.2.1, by rw [imgV_len]; exact h.2.1.2.2.1, by rw [imgV_len]; exact h.2.1.2.2.2.1, fun x hx => ?_⟩, by rw [imgV_len]; exact h.2.2⟩
  unfold imgV at hx
  obtain ⟨y, _, rfl⟩ := List.mem_map.1 hx
  have := h.1.1
  exact ⟨Int.emod_nonneg _ (by omega), Int.emod_lt_of_pos _ (by omega)⟩
/-- while the tones are moved -/
def mixV (f : Int → Int) (b : List Int) (i : Nat) : List Int := (b.take i).map f ++ b.drop i
theorem mixV_len (f : Int → Int) (b : List Int) (i : Nat) : (mixV f b i).length = b.length := by unfold mixV; simp; omega
theorem mixV_at {f : Int → Int} {b : List Int} {i : Nat} (h : i < b.length) : rd (mixV f b i) (i : Int) = rd b (i : Int) := by
  rw [rd_nat, rd_nat]
  unfold mixV
  rw [List.getD_eq_getElem?_getD, List.getD_eq_getElem?_getD, List.getElem?_append_right (by simp; omega)]
  simp [Nat.min_eq_left (Nat.le_of_lt h)]
theorem mixV_set {f : Int → Int} {b : List Int} {i : Nat} (h : i < b.length) : (mixV f b i).set i (f (rd b (i : Int))) = mixV f b (i + 1) := by
  unfold mixV
  have hl : ((b.take i).map f).length = i := by simp; omega
  rw [List.set_append_right _ _ (by omega), hl, Nat.sub_self, List.drop_eq_getElem_cons h, List.set_cons_zero, List.take_succ_eq_append_getElem h, rd_get h, List.map_append, List.append_assoc]
  rfl
theorem mixV_all (f : Int → Int) (b : List Int) : mixV f b b.length = b.map f := by unfold mixV; simp
def voices_Near.f (a0 : Int) (l1 l2 : List Int) : Option (List Int × Int × Int) := if TwoN a0 l1 l2 then some (((nearV a0 l1 l2).getD ([], 0)).1, ((nearV a0 l1 l2).getD ([], 0)).2, 0) else some ([], 0, 2)
set_option maxHeartbeats 8000000 in
set_option maxRecDepth 100000 in
theorem voices_Near.calls (a0 : Int) (A1 : Option Addr) (c1 : Nat) (l1 : List Int) (A2 : Option Addr) (c2 : Nat) (l2 : List Int) (r1 : List Int) (r2 r3 : Int) (w : World) (hr1 : Kd.C (Kd.int .i64) w A1 l1.length l1) (hc1 : l1.length ≤ c1) (hr2 : Kd.C (Kd.int .i64) w A2 l2.length l2) (hc2 : l2.length ≤ c2) (h : voices_Near.f a0 l1 l2 = some (r1, r2, r3)) :
    Calls Try.prog 26 #[.int .i64 a0, .slice A1 l1.length c1, .slice A2 l2.length c2] w fun e w' => ∃ v0_ : Value, e = .returned (.tuple #[v0_, .int .i64 r2, .int .i64 r3]) ∧ Kd.R (Kd.int .i64) 3 w' w.heap.size (fun _ => True) v0_ r1 ∧ Below w.heap.size w w' := by
  have HB := Aside0.mk (Below.refl w.heap.size w)
  have HO1 := Aside0.mk (Kd.V_mono (ok' := (fun k_ => ((k_ < w.heap.size ∨ k_ < w.heap.size) ∨ w.heap.size ≤ k_))) (V_of_C (e := 3) (base := w.heap.size) hr1 hc1) (fun _ hk => .inl (.inl hk)))
  have HO2 := Aside0.mk (Kd.V_mono (ok' := (fun k_ => ((k_ < w.heap.size ∨ k_ < w.heap.size) ∨ w.heap.size ≤ k_))) (V_of_C (e := 3) (base := w.heap.size) hr2 hc2) (fun _ hk => .inl (.inl hk)))
  have HR1 := Aside0.mk hr1
  have HR2 := Aside0.mk hr2
  have HC1 := Aside0.mk hc1
  have HC2 := Aside0.mk hc2
  unfold voices_Near.f at h
  obtain ⟨k, hv⟩ := Ev.rounds (g := fun k => voices_circle_valid.f k a0 [l1, l2]) (valid2_ev a0 l1 l2)
  obtain ⟨y, hy⟩ : ∃ y : List (List Int), y = [l1, l2] := ⟨_, rfl⟩
  rw [← hy] at hv
  have HY := Aside0.mk hy
  clear hy hr1 hr2 hc1 hc2
  by_cases hc : TwoN a0 l1 l2
  · rw [decide_eq_true hc] at hv
    rw [if_pos hc] at h
    have HV := Aside0.mk hv
    have HT := Aside0.mk hc
    simp only [Option.some.injEq, Prod.mk.injEq] at h
    obtain ⟨hres1, hres2, rfl⟩ := h
    have HRES1 := Aside0.mk hres1
    have HRES2 := Aside0.mk hres2
    clear hv hc hres1 hres2
    obtain ⟨n, rfl⟩ : ∃ n : Nat, a0 = (n : Int) := ⟨a0.toNat, by have := HT.out.1.1; omega⟩
    have HN := Aside0.mk (show 2 ≤ n ∧ n ≤ 16 from ⟨by have := HT.out.1.1; omega, by have := HT.out.1.2.1; omega⟩)
    go_enter Try.func26, Try.ntmps26
    go_wp2_with (first | ((with_reducible refine gate_dst (N := 22) rfl ?_); (try (refine gate_guard (by rfl) ?_; dsimp only)); refine Kd.N_lit (Kd.slice 3 (Kd.int .i64)) _ 23 ?hg (N' := 22) ?hd (xs := ([l1, l2] : List (List Int))) (inner := [.slice A1 l1.length c1, .slice A2 l2.length c2]) (ok := (fun k_ => ((k_ < w.heap.size ∨ k_ < w.heap.size) ∨ w.heap.size ≤ k_))) (okp := (fun k_ => ((k_ < w.heap.size ∨ k_ < w.heap.size) ∨ w.heap.size ≤ k_))) ?hr ?hp (fun _ hk => hk) ((show ∀ k_, w.heap.size ≤ k_ → (fun k_ => ((k_ < w.heap.size ∨ k_ < w.heap.size) ∨ w.heap.size ≤ k_)) k_ from fun k_ hk => (.inr (Nat.le_trans (below_size (by repeat (first | (with_reducible first | exact HB.out | apply below_alloc | apply pw_below_drewN | apply below_drew1) | exact HB.out))) hk))) _ (Nat.le_refl _)) (Below.refl _ _) (Nat.le_refl _) (by simp) ?_; (case hd => rfl); (case hg => rfl); (case hr => first | (go_simp; done) | (go_simp; rfl)); (case hp => exact (Reps.one (show Kd.FK (Kd.slice 3 (Kd.int .i64)) _ _ l1 [.slice A1 l1.length c1] from (Kd.FK_slice_mk (Kd.V_reads' (Kd.V_mono (ok' := (fun k_ => ((k_ < w.heap.size ∨ k_ < w.heap.size) ∨ w.heap.size ≤ k_))) (HO1.out) (fun k_ hk => hk))).2.1 (Kd.V_F (Kd.V_mono (ok' := (fun k_ => ((k_ < w.heap.size ∨ k_ < w.heap.size) ∨ w.heap.size ≤ k_))) (HO1.out) (fun k_ hk => hk))))) (Reps.one (show Kd.FK (Kd.slice 3 (Kd.int .i64)) _ _ l2 [.slice A2 l2.length c2] from (Kd.FK_slice_mk (Kd.V_reads' (Kd.V_mono (ok' := (fun k_ => ((k_ < w.heap.size ∨ k_ < w.heap.size) ∨ w.heap.size ≤ k_))) (HO2.out) (fun k_ hk => hk))).2.1 (Kd.V_F (Kd.V_mono (ok' := (fun k_ => ((k_ < w.heap.size ∨ k_ < w.heap.size) ∨ w.heap.size ≤ k_))) (HO2.out) (fun k_ hk => hk))))) (Reps.none _ _)))); intro v1002 w10 ho11 hb hg_ hnew_; clear hg_ hnew_; rw [← HY.out] at ho11; have n2_ := Aside0.mk (Kd.N_lower ho11 (below_size (by repeat (first | (with_reducible first | exact HB.out | apply below_alloc | apply pw_below_drewN | apply below_drew1) | exact HB.out)))); have n3_ := Aside0.mk (below_step (by repeat (first | (with_reducible first | exact HB.out | apply below_alloc | apply pw_below_drewN | apply below_drew1) | exact HB.out)) hb); clear HO1 HO2; clear HB; have HOV := n2_; have HB := n3_; clear n2_ n3_; clear hb ho11; obtain ⟨Ao12, co12, eo12⟩ := Kd.N_slice HOV.out; subst eo12) | ((with_reducible refine gate_callee (f := 36) rfl ?_); refine goesL_ (some 23) rfl rfl Try.func36 (by kernel_rfl) rfl #[.int .i64 (_ : Int), .slice Ao12 y.length co12] rfl (by (try simp only [List.map_toArray, List.map_cons, List.map_nil]); first | done | rfl) ?_; (with_reducible refine (voices_circle_valid.calls k _ _ _ y true _ ?side1 ?side2 HV.out).mono ?_); (case side1 => repeat (first | exact (Kd.N_reads' HOV.out).2.2 | (with_reducible refine Kd.C_alloc ?_ _) | (with_reducible refine Kd.C_drewN ?_ _) | (with_reducible refine Kd.C_drew ?_))); (case side2 => exact (Kd.N_reads' HOV.out).2.1); rintro e w' ⟨rfl, ⟨nd, rfl⟩⟩; refine ⟨_, rfl, ?_⟩))
    obtain ⟨W9, hW9⟩ : ∃ W9, w10.drewN nd = W9 := ⟨_, rfl⟩
    have hb9 : Below w.heap.size w W9 := by rw [← hW9]; exact pw_below_drewN HB.out nd
    have hs9 : w10.heap.size = W9.heap.size := by rw [← hW9]; rfl
    rw [hW9, hs9]
    obtain ⟨W3, hW3⟩ : ∃ W3, (W9.alloc (.cells #[.slice none 0 0, .int .i64 0] 62)).alloc (.cells #[.int .i64 1, .int .i64 (-1)] 3) = W3 := ⟨_, rfl⟩
    rw [hW3]
    obtain ⟨g1, g2, g3, g4⟩ := near_new W9 _ _ W3 hW3
    obtain ⟨S, hS⟩ : ∃ S, W9.heap.size = S := ⟨_, rfl⟩
    rw [hS] at g1 g2 g3 g4 ⊢
    have HS9 := Aside0.mk (show w.heap.size ≤ S by rw [← hS]; exact hb9.size)
    have HB3 := Aside0.mk (hb9.trans (g3.mono (by rw [← hS]; exact hb9.size)))
    have HZ3 := Aside0.mk g4
    have HG2 := Aside0.mk g2
    have HJ0 := Aside0.mk (show SeeJ S (S + 2) none W3 from ⟨frozen_cells9 g1, frozen_cells9 g1, (two_cells9 g1).1, (two_cells9 g1).2⟩)
    have hL12 := HT.out.2.2
    have HL2 := Aside0.mk (show 1 ≤ l2.length ∧ l2.length ≤ 6 from ⟨HT.out.2.1.2.2.1, HT.out.2.1.2.2.2.1⟩)
    have HXR := Aside0.mk HT.out.2.1.2.2.2.2
    obtain ⟨adT, hadT⟩ : ∃ ad : Addr, ad = ⟨S + 1, 0, none⟩ := ⟨_, rfl⟩
    rw [← hadT]
    have HADT := Aside0.mk hadT
    clear hW9 hb9 hs9 hW3 g1 g2 g3 g4 hS HB HOV hL12 hadT
    generalize hLL1 : l1.length = L1 at *
    have HLL1 := Aside0.mk hLL1
    generalize hLL2 : l2.length = L2 at *
    have HLL2 := Aside0.mk hLL2
    clear hLL1 hLL2
    go_loopg [27] 2 (fun gg s27 wr => ∃ q : Nat, s27 = .int .i64 q ∧ Aside0 (q + gg = 2) ∧ Aside0 (SeeJ S (S + 2) (nearF n l1 (imgsTo n l2 q 0)) wr) ∧ Aside0 (Fr (fun i => i ≠ S ∧ i < W3.heap.size) W3 wr))
    case atStart => exact ⟨0, rfl, ⟨by omega⟩, HJ0, ⟨Fr.refl _ _⟩⟩
    case round =>
      obtain ⟨q, rfl, HQ, HJ, HF⟩ := hrel
      obtain ⟨G, rfl⟩ : ∃ G, G = gk := ⟨gk, rfl⟩
      obtain ⟨wq, hwq⟩ : ∃ wq : World, wq = wr := ⟨wr, rfl⟩
      subst hwq
      by_cases hq : q < 2
      · have hqz : (q : Int) < 2 := by omega
        have hq0 : (0 : Int) ≤ (q : Int) := by omega
        obtain ⟨sg, hsg⟩ : ∃ sg : Int, (if q = 0 then (1 : Int) else -1) = sg := ⟨_, rfl⟩
        have hcT : wq.cell? (adT.add q) = some (.int .i64 sg) := by
          have hblk := (HF.out.block (S + 1) ⟨by omega, by have := HZ3.out; omega⟩).trans HG2.out
          obtain ⟨t0, t1⟩ := two_cells9 hblk
          rw [HADT.out, ← hsg]
          have hq2 : q = 0 ∨ q = 1 := by omega
          rcases hq2 with rfl | rfl
          · exact t0
          · exact t1
        have HSG := Aside0.mk hsg
        have hsg1 : sg = 1 ∨ sg = -1 := by rw [← hsg]; split <;> simp
        have HSG1 := Aside0.mk hsg1
        clear hsg hsg1
        go_wp2
        go_loopg [32] n (fun gg s32 wr => ∃ k : Nat, s32 = .int .i64 k ∧ Aside0 (k + gg = n) ∧ Aside0 (SeeJ S (S + 2) (nearF n l1 (imgsTo n l2 q k)) wr) ∧ Aside0 (Fr (fun i => i ≠ S ∧ i < W3.heap.size) W3 wr))
        case atStart => exact ⟨0, rfl, ⟨by omega⟩, HJ, HF⟩
        case round =>
          obtain ⟨k, rfl, HK, HJK, HFK⟩ := hrel
          obtain ⟨G2, rfl⟩ : ∃ G2, G2 = gk := ⟨gk, rfl⟩
          obtain ⟨wk, hwk⟩ : ∃ wk : World, wk = wr := ⟨wr, rfl⟩
          subst hwk
          clear hcT
          by_cases hk : k < n
          · have hkz : (k : Int) < (n : Int) := by omega
            have hbk : Below w.heap.size w wk := HB3.out.trans (HFK.out.below (fun i hi => ⟨by have := HS9.out; omega, by have := HS9.out; have := HZ3.out; omega⟩))
            have HBK := Aside0.mk hbk
            have HSK := Aside0.mk (show S + 2 ≤ wk.heap.size from by rw [← HZ3.out]; exact HFK.out.size)
            have hcl := slices_Clone_int_int.calls A2 c2 l2 l2 wk (by rw [HLL2.out]; exact Kd.C_below HR2.out hbk) (by rw [HLL2.out]; exact HC2.out) (by unfold slices_Clone_int_int.f; rw [if_pos (by rw [HLL2.out]; have := HL2.out; omega)])
            rw [HLL2.out] at hcl
            have HCL := Aside0.mk hcl
            clear hbk hcl
            go_wp2_with fail
            refine HCL.out.mono ?_
            rintro e w1 ⟨v1, rfl, hr1, hb1⟩
            obtain ⟨Av, cv, e1⟩ := Kd.R_slice hr1
            subst e1
            rw [HLL2.out] at hr1 ⊢
            obtain ⟨ad1, e2, _⟩ := Kd.at_int (Kd.R_reads' hr1).2.2 0 (by omega) (by rw [HLL2.out]; have := HL2.out; omega)
            subst e2
            obtain ⟨g, e3⟩ := Kd.R_head hr1
            subst e3
            have HR1V := Aside0.mk hr1
            have HB1 := Aside0.mk hb1
            have HGB := Aside0.mk (show wk.heap.size ≤ g from Kd.R_base hr1 g rfl)
            clear hr1 hb1
            go_wp2
            go_loopg [39] L2 (fun gg s39 wr => ∃ i : Nat, s39 = .int .i64 i ∧ Aside0 (i + gg = L2) ∧ Aside0 (Kd.R (Kd.int .i64) 3 wr wk.heap.size (fun _ => True) (.slice (some ⟨g, 0, none⟩) L2 cv) (mixV (fun x => ((k : Int) + sg * x) % (n : Int)) l2 i)) ∧ Aside0 (Fr (fun j => j ≠ g ∧ j < w1.heap.size) w1 wr))
            case atStart => exact ⟨0, rfl, ⟨by omega⟩, ⟨by unfold mixV; simpa using HR1V.out⟩, ⟨Fr.refl _ _⟩⟩
            case round =>
              obtain ⟨i, rfl, HI, HRI, HFI⟩ := hrel
              obtain ⟨wi, hwi⟩ : ∃ wi : World, wi = wr := ⟨wr, rfl⟩
              subst hwi
              by_cases hi : i < L2
              · have hiz : (i : Int) < (L2 : Int) := by omega
                have hi0 : (0 : Int) ≤ (i : Int) := by omega
                have hil : i < l2.length := by rw [HLL2.out]; exact hi
                obtain ⟨hcx, hfx⟩ := Kd.R_celln 0 HRI.out (i : Int) hi0 hiz
                rw [Int.toNat_natCast] at hcx hfx
                have hrx : rdOf 0 (mixV (fun x => ((k : Int) + sg * x) % (n : Int)) l2 i) (i : Int) = rd l2 (i : Int) := mixV_at hil
                rw [hrx] at hcx
                have hset := mixV_set (f := fun x => ((k : Int) + sg * x) % (n : Int)) hil
                have hxr := HXR.out _ (rd_mem hil)
                generalize rd l2 (i : Int) = x at hcx hset hxr
                have hn16 := HN.out
                obtain ⟨m, hm⟩ : ∃ m, sg * x = m := ⟨_, rfl⟩
                have hmb : -16 ≤ m ∧ m ≤ 16 := by
                  rw [← hm]
                  rcases HSG1.out with h | h
                  · rw [h]; omega
                  · rw [h]; omega
                have wm : IntKind.i64.wrap (sg * x) = m := by rw [hm]; exact i64_id (by omega) (by omega)
                have wm2 : wrap64 (sg * x) = m := by rw [hm]; exact wrap_id (by omega) (by omega)
                have wk1 : IntKind.i64.wrap ((k : Int) + m) = (k : Int) + m := i64_id (by omega) (by omega)
                have wk2 : wrap64 ((k : Int) + m) = (k : Int) + m := wrap_id (by omega) (by omega)
                rw [hm] at hset
                have HMOD := Aside0.mk (mod_f (n := (n : Int)) (x := (k : Int) + m) (by omega) (by omega))
                generalize ((k : Int) + m) % (n : Int) = r at hset HMOD
                have HSET := Aside0.mk hset
                have hL26 : L2 ≤ 6 := HL2.out.2
                clear hset hm hxr hrx hil hn16 hmb
                go_wp2_with fail
                refine (voices_circle_mod.calls _ _ _ _ HMOD.out).mono ?_
                rintro e w2 ⟨rfl, hd⟩
                obtain ⟨qd, rfl⟩ := hd
                have HPUT := Aside0.mk (show Kd.R (Kd.int .i64) 3 ((wi.drewN qd).setCell ⟨g, i, none⟩ (.int .i64 r)) wk.heap.size (fun _ => True) (.slice (some ⟨g, 0, none⟩) L2 cv) (mixV (fun x => ((k : Int) + sg * x) % (n : Int)) l2 (i + 1)) from by
                  have h := Kd.R_putn (Kd.R_below HRI.out (pw_below_drewN (Below.refl _ _) qd)) (i : Int) r
                  rw [Int.toNat_natCast, HSET.out] at h
                  exact h)
                go_wp2
                go_roundg (gk - 1)
                case measure => have := HI.out; omega
                case rel => exact ⟨i + 1, by first | go_num | (rw [wrap_id (by omega) (by omega)]; rfl), ⟨by have := HI.out; omega⟩, HPUT, ⟨HFI.out.trans ((Fr.drewN _ wi qd).trans (Fr.setCell _ _ (fun h => h.1 rfl)))⟩⟩
              · have hiL : i = L2 := by have := HI.out; omega
                have hiz : ¬ (i : Int) < (L2 : Int) := by omega
                have hmx : mixV (fun x => ((k : Int) + sg * x) % (n : Int)) l2 i = imgV n l2 q k := by
                  rw [hiL, ← HLL2.out, mixV_all, ← HSG.out]; rfl
                have hRI := HRI.out
                rw [hmx] at hRI
                have himl : (imgV n l2 q k).length = L2 := by rw [imgV_len, HLL2.out]
                have HIML := Aside0.mk himl
                have htw := img_two HT.out q k
                have hbi : Below wk.heap.size wk wi := HB1.out.trans ((HFI.out.mono (Q := fun j => j < wk.heap.size) (fun j hj => ⟨by have := HGB.out; omega, Nat.lt_of_lt_of_le hj HB1.out.size⟩)).below (fun j hj => hj))
                have HBI := Aside0.mk hbi
                have hbest := best_two htw (w := wi) (Aa := A1) (ca := c1) (Ab := some ⟨g, 0, none⟩) (cb := cv) (by rw [HLL1.out]; exact Kd.C_below HR1.out (HBK.out.trans (hbi.mono HBK.out.size))) (by rw [HLL1.out]; exact HC1.out) (Kd.R_reads' hRI).2.2 (by rw [himl]; exact (Kd.R_reads' hRI).2.1)
                rw [HLL1.out, himl] at hbest
                generalize hct : (bestV (n : Int) l1 (imgV n l2 q k)).2 = ct at hbest
                generalize (bestV (n : Int) l1 (imgV n l2 q k)).1 = ol at hbest
                have HCT := Aside0.mk hct
                have HBEST := Aside0.mk hbest
                have HRI2 := Aside0.mk hRI
                clear hct hbest hRI hmx htw hbi himl hiL
                go_wp2_with fail
                refine HBEST.out.mono ?_
                rintro e w3 ⟨Ab3, cb3, rfl, _, _, hb3⟩
                obtain ⟨Lol, hLol⟩ : ∃ Lol, (optL ol).length = Lol := ⟨_, rfl⟩
                rw [hLol]
                have hb13 : Below wi.heap.size wi w3 := hb3
                have hrs := voices_rising.calls (some ⟨g, 0, none⟩) cv (imgV n l2 q k) (risL (imgV n l2 q k)) w3 (Kd.C_below (Kd.R_reads' HRI2.out).2.2 hb13) (by rw [HIML.out]; exact (Kd.R_reads' HRI2.out).2.1) (by unfold voices_rising.f; rw [if_pos (by rw [HIML.out]; have := HL2.out; omega)]; rfl)
                rw [HIML.out] at hrs
                have HRS := Aside0.mk hrs
                have HB13 := Aside0.mk hb13
                clear hrs hb13 hb3 hLol
                go_wp2_with fail
                refine HRS.out.mono ?_
                rintro e w4 ⟨v4, rfl, hr4, hb4⟩
                have hrl : (risL (imgV n l2 q k)).length = L2 := by rw [risL_len, HIML.out]
                obtain ⟨A4, c4, e4⟩ := Kd.R_slice hr4
                subst e4
                obtain ⟨ad4, e5, _⟩ := Kd.at_int (Kd.R_reads' hr4).2.2 0 (by omega) (by rw [hrl]; have := HL2.out; omega)
                subst e5
                have hf4 : Fr (fun i => i < wk.heap.size) wk w4 := ((Fr.of_below HBI.out (fun _ h => h)).trans (Fr.of_below HB13.out (fun j hj => Nat.lt_of_lt_of_le hj HBI.out.size))).trans (Fr.of_below hb4 (fun j hj => Nat.lt_of_lt_of_le hj (Nat.le_trans HBI.out.size HB13.out.size)))
                have hw3 : S + 2 ≤ w3.heap.size := Nat.le_trans HSK.out (Nat.le_trans HBI.out.size HB13.out.size)
                have hsee := see_calls (S := S) (base := S + 2) (st := nearF (n : Int) l1 (imgsTo n l2 q k)) (v := risL (imgV n l2 q k)) (c := ct) (ad := ad4) (cap := c4) (W := w4) (see_move HJK.out hf4) (Kd.R_lower (Kd.R_mono (Kd.R_bound hr4) (fun j hj => by have := hj.2.1; omega)) hw3) (fun w0 d h => by
                  have := nearF_len (imgsTo n l2 q k) none (fun v hv => imgsTo_len v hv) (fun w d h => by cases h) w0 d h
                  rw [hrl, this, HLL2.out]) (by rw [hrl]; have := HL2.out; omega)
                rw [← HCT.out, ← nearF_snoc, ← imgsTo_next, HCT.out, hrl] at hsee
                have HSEE := Aside0.mk hsee
                have HF4 := Aside0.mk hf4
                rw [hrl]
                clear hsee hr4 hb4 hf4 hw3 hrl
                go_wp2_with fail
                refine HSEE.out.mono ?_
                rintro e w5 ⟨⟨u, rfl⟩, hj5, hf5⟩
                have HJ5 := Aside0.mk hj5
                have HF5 := Aside0.mk hf5
                clear hj5 hf5
                have hkb : k < 1000 := by have := HN.out; omega
                go_wp2
                go_roundg (G2 - 1)
                case measure => have := HK.out; omega
                case rel => exact ⟨k + 1, by first | go_num | (rw [wrap_id (by omega) (by omega)]; rfl), ⟨by have := HK.out; omega⟩, HJ5, ⟨HFK.out.trans ((HF4.out.mono (fun j hj => Nat.lt_of_lt_of_le hj.2 HFK.out.size)).trans (HF5.out.mono (fun j hj => ⟨hj.1, Nat.lt_of_lt_of_le hj.2 (Nat.le_trans HFK.out.size HF4.out.size)⟩)))⟩⟩
          · have hkn : k = n := by have := HK.out; omega
            have hkz : ¬ (k : Int) < (n : Int) := by omega
            have HJN := Aside0.mk (show SeeJ S (S + 2) (nearF (n : Int) l1 (imgsTo n l2 (q + 1) 0)) wk from by have h := HJK.out; rw [hkn, imgsTo_turn] at h; exact h)
            clear hkn
            go_wp2
            go_roundg (G - 1)
            case measure => have := HQ.out; omega
            case rel => exact ⟨q + 1, by first | go_num | (rw [wrap_id (by omega) (by omega)]; rfl), ⟨by have := HQ.out; omega⟩, HJN, HFK⟩
      · have hq2 : q = 2 := by have := HQ.out; omega
        have hqz : ¬ (q : Int) < 2 := by omega
        have hJ := HJ.out
        rw [hq2] at hJ
        obtain ⟨⟨v, ct⟩, hp⟩ := nearF_some (n := (n : Int)) (a := l1) (imgsTo n l2 2 0) none (.inl (imgs_ne HN.out.1 l2))
        have hp2 : nearF (n : Int) l1 (imgsTo n l2 2 0) = some (v, ct) := hp
        rw [hp2] at hJ
        obtain ⟨f0, f1, ad9, cap9, q0, q1, hR9⟩ := hJ
        have hnv : nearV (n : Int) l1 l2 = some (v, ct) := by unfold nearV; rw [Int.toNat_natCast]; exact hp2
        have h1 := HRES1.out
        have h2 := HRES2.out
        rw [hnv] at h1 h2
        have HR9 := Aside0.mk hR9
        have H1 := Aside0.mk h1
        have H2 := Aside0.mk h2
        generalize hLv : v.length = Lv at q0 HR9
        have hbq : Below w.heap.size w wq := HB3.out.trans (HF.out.below (fun i hi => ⟨by have := HS9.out; omega, by have := HS9.out; have := HZ3.out; omega⟩))
        have HBQ := Aside0.mk hbq
        clear hq2 hp hp2 hnv h1 h2 hR9 hbq hLv f0 f1
        go_wp2
        go_region
        go_wp2
        go_ret3
        refine ⟨_, by rw [← H2.out]; rfl, ?_, below_drew1 HBQ.out⟩
        rw [← H1.out]
        exact Kd.R_below (Kd.R_mono (Kd.R_lower HR9.out (by have := HS9.out; omega)) (fun _ _ => trivial)) (below_drew1 (Below.refl _ _))
  · rw [decide_eq_false hc] at hv
    rw [if_neg hc] at h
    have HV := Aside0.mk hv
    simp only [Option.some.injEq, Prod.mk.injEq] at h
    obtain ⟨rfl, rfl, rfl⟩ := h
    clear hv hc
    go_enter Try.func26, Try.ntmps26
    go_wp2_with (first | ((with_reducible refine gate_dst (N := 22) rfl ?_); (try (refine gate_guard (by rfl) ?_; dsimp only)); refine Kd.N_lit (Kd.slice 3 (Kd.int .i64)) _ 23 ?hg (N' := 22) ?hd (xs := ([l1, l2] : List (List Int))) (inner := [.slice A1 l1.length c1, .slice A2 l2.length c2]) (ok := (fun k_ => ((k_ < w.heap.size ∨ k_ < w.heap.size) ∨ w.heap.size ≤ k_))) (okp := (fun k_ => ((k_ < w.heap.size ∨ k_ < w.heap.size) ∨ w.heap.size ≤ k_))) ?hr ?hp (fun _ hk => hk) ((show ∀ k_, w.heap.size ≤ k_ → (fun k_ => ((k_ < w.heap.size ∨ k_ < w.heap.size) ∨ w.heap.size ≤ k_)) k_ from fun k_ hk => (.inr (Nat.le_trans (below_size (by repeat (first | (with_reducible first | exact HB.out | apply below_alloc | apply pw_below_drewN | apply below_drew1) | exact HB.out))) hk))) _ (Nat.le_refl _)) (Below.refl _ _) (Nat.le_refl _) (by simp) ?_; (case hd => rfl); (case hg => rfl); (case hr => first | (go_simp; done) | (go_simp; rfl)); (case hp => exact (Reps.one (show Kd.FK (Kd.slice 3 (Kd.int .i64)) _ _ l1 [.slice A1 l1.length c1] from (Kd.FK_slice_mk (Kd.V_reads' (Kd.V_mono (ok' := (fun k_ => ((k_ < w.heap.size ∨ k_ < w.heap.size) ∨ w.heap.size ≤ k_))) (HO1.out) (fun k_ hk => hk))).2.1 (Kd.V_F (Kd.V_mono (ok' := (fun k_ => ((k_ < w.heap.size ∨ k_ < w.heap.size) ∨ w.heap.size ≤ k_))) (HO1.out) (fun k_ hk => hk))))) (Reps.one (show Kd.FK (Kd.slice 3 (Kd.int .i64)) _ _ l2 [.slice A2 l2.length c2] from (Kd.FK_slice_mk (Kd.V_reads' (Kd.V_mono (ok' := (fun k_ => ((k_ < w.heap.size ∨ k_ < w.heap.size) ∨ w.heap.size ≤ k_))) (HO2.out) (fun k_ hk => hk))).2.1 (Kd.V_F (Kd.V_mono (ok' := (fun k_ => ((k_ < w.heap.size ∨ k_ < w.heap.size) ∨ w.heap.size ≤ k_))) (HO2.out) (fun k_ hk => hk))))) (Reps.none _ _)))); intro v1002 w10 ho11 hb hg_ hnew_; clear hg_ hnew_; rw [← HY.out] at ho11; have n2_ := Aside0.mk (Kd.N_lower ho11 (below_size (by repeat (first | (with_reducible first | exact HB.out | apply below_alloc | apply pw_below_drewN | apply below_drew1) | exact HB.out)))); have n3_ := Aside0.mk (below_step (by repeat (first | (with_reducible first | exact HB.out | apply below_alloc | apply pw_below_drewN | apply below_drew1) | exact HB.out)) hb); clear HO1 HO2; clear HB; have HOV := n2_; have HB := n3_; clear n2_ n3_; clear hb ho11; obtain ⟨Ao12, co12, eo12⟩ := Kd.N_slice HOV.out; subst eo12) | ((with_reducible refine gate_callee (f := 36) rfl ?_); refine goesL_ (some 23) rfl rfl Try.func36 (by kernel_rfl) rfl #[.int .i64 (_ : Int), .slice Ao12 y.length co12] rfl (by (try simp only [List.map_toArray, List.map_cons, List.map_nil]); first | done | rfl) ?_; (with_reducible refine (voices_circle_valid.calls k _ _ _ y false _ ?side1 ?side2 HV.out).mono ?_); (case side1 => repeat (first | exact (Kd.N_reads' HOV.out).2.2 | (with_reducible refine Kd.C_alloc ?_ _) | (with_reducible refine Kd.C_drewN ?_ _) | (with_reducible refine Kd.C_drew ?_))); (case side2 => exact (Kd.N_reads' HOV.out).2.1); rintro e w' ⟨rfl, ⟨nd, rfl⟩⟩; refine ⟨_, rfl, ?_⟩))
    go_ret3
    exact ⟨_, by first | rfl | simp, Kd.R_nil _ _ _ _ _, (by repeat (first | (with_reducible first | exact HB.out | apply below_alloc | apply pw_below_drewN | apply below_drew1) | exact HB.out))⟩

end Go.Proofs.Ytfjafmgaahfhgaa.P
namespace Go.Proofs.Ytfjafmgaahfhgaa.P
open Go.RowKit Go.Proofs.YtfjafmgaahfhgaaW.PrintWords Go.Proofs.YtfjafmgaahfhgaaW.PrintLast Go.Proofs.YtfjafmgaahfhgaaW.PrintMore
attribute [local go_sem] max2_int min2_int max_two min_two max_three min_three max_four min_four   -- for this text's walks alone
set_option linter.unusedVariables false
set_option linter.unusedSimpArgs false

/-! the document's tones in order -/
def insR (x : Int) : List Int → List Int
  | [] => [x]
  | y :: l => if y ≤ x then y :: insR x l else x :: y :: l
def risR (a : List Int) : List Int := a.foldl (fun o x => insR x o) []
theorem insR_at (x : Int) : ∀ (O : List Int) (j : Nat), j ≤ O.length → (∀ i, i < j → O.getD i 0 ≤ x) → (j < O.length → ¬ O.getD j 0 ≤ x) → insR x O = O.take j ++ x :: O.drop j
  | [], j, hj, _, _ => by
    have : j = 0 := by simpa using hj
    subst this; rfl
  | y :: O, 0, _, _, h => by
    unfold insR
    have := h (by simp)
    rw [if_neg (by simpa using this)]; rfl
  | y :: O, j + 1, hj, h1, h2 => by
    unfold insR
    rw [if_pos (by simpa using h1 0 (by omega)), insR_at x O j (by simpa using hj) (fun i hi => by simpa using h1 (i + 1) (by omega)) (fun hl => by simpa using h2 (by simpa using hl))]
    rfl
theorem insR_length (x : Int) : ∀ O : List Int, (insR x O).length = O.length + 1
  | [] => rfl
  | y :: O => by
    unfold insR
    split
    · rw [List.length_cons, insR_length x O, List.length_cons]
    · rfl
theorem risR_snoc (a : List Int) (x : Int) : risR (a ++ [x]) = insR x (risR a) := by unfold risR; rw [List.foldl_append]; rfl
theorem risR_length (a : List Int) : (risR a).length = a.length := by
  have h : ∀ (l o : List Int), (l.foldl (fun o x => insR x o) o).length = o.length + l.length := by
    intro l
    induction l with
    | nil => intro o; rfl
    | cons x l ih => intro o; rw [List.foldl_cons, ih, insR_length, List.length_cons]; omega
  have := h a []
  unfold risR
  rw [this]; simp
theorem C_upto {W : World} {A : Option Addr} {O : List Int} {j : Nat} (h : Kd.C (Kd.int .i64) W A O.length O) (hj : j ≤ O.length) : Kd.C (Kd.int .i64) W A j (O.take j) := by
  have := Kd.C_take h hj
  rwa [List.length_take, Nat.min_eq_left hj] at this
theorem C_from {W : World} {ad : Addr} {O : List Int} {j c : Nat} (h : Kd.C (Kd.int .i64) W (some ad) O.length O) (hj : j ≤ O.length) (hc : O.length ≤ c) : Kd.C (Kd.int .i64) W (if c = j then some ad else some (ad.add j)) (O.length - j) (O.drop j) := by
  have := Kd.C_drop h hj hc
  rw [List.length_drop] at this
  rw [show j * (Kd.int .i64).sz = j from Nat.mul_one j] at this
  exact this
theorem C_fromN {W : World} {O : List Int} {j : Nat} (h : Kd.C (Kd.int .i64) W none O.length O) (hj : j ≤ O.length) : Kd.C (Kd.int .i64) W none (O.length - j) (O.drop j) := by
  have h0 : O = [] := by
    cases O with
    | nil => rfl
    | cons y O => obtain ⟨ad, e, _⟩ := h.2.2 (by simp); cases e
  subst h0
  have : j = 0 := by simpa using hj
  subst this
  exact h
theorem R_only9 {e : Nat} {w : World} {base : Nat} {ok ok' : Nat → Prop} {v : Value} {xs : List Int} (h : Kd.R (Kd.int .i64) e w base ok v xs) (hok : ∀ k, v.ownBlock = some k → ok' k) : Kd.R (Kd.int .i64) e w base ok' v xs := by
  obtain ⟨_, inner, ho, hr⟩ := h
  exact ⟨hok, inner, ho, hr⟩
def sackbutref06_Rising.f (l1 : List Int) : Option (List Int) := if l1.length ≤ 1000 then some (risR l1) else none
set_option maxHeartbeats 8000000 in
set_option maxRecDepth 100000 in
theorem sackbutref06_Rising.calls (A1 : Option Addr) (c1 : Nat) (l1 : List Int) (r : List Int) (w : World) (hr1 : Kd.C (Kd.int .i64) w A1 l1.length l1) (hc1 : l1.length ≤ c1) (h : sackbutref06_Rising.f l1 = some r) :
    Calls Try.prog 15 #[.slice A1 l1.length c1] w fun e w' => ∃ v0_ : Value, e = .returned v0_ ∧ Kd.R (Kd.int .i64) 3 w' w.heap.size (fun _ => True) v0_ r ∧ Below w.heap.size w w' := by
  unfold sackbutref06_Rising.f at h
  by_cases hc : l1.length ≤ 1000
  · rw [if_pos hc] at h
    have hres := Option.some.inj h
    have HRES := Aside0.mk hres
    have HR1 := Aside0.mk hr1
    have HC1 := Aside0.mk hc1
    clear hr1 hc1 h hres
    go_enter Try.func15, Try.ntmps15
    go_wp2
    go_loopg [3, 9] l1.length (fun gg s3 s9 wr => ∃ (i : Nat) (A : Option Addr) (c : Nat), s9 = .int .i64 i ∧ s3 = .slice A (risR (l1.take i)).length c ∧ Aside0 (i + gg = l1.length) ∧ Aside0 (Kd.R (Kd.int .i64) 3 wr w.heap.size (fun _ => True) (.slice A (risR (l1.take i)).length c) (risR (l1.take i))) ∧ Aside0 (Below w.heap.size w wr))
    case atStart => exact ⟨0, none, 0, rfl, by simp [risR], ⟨by omega⟩, ⟨Kd.R_nil _ _ _ _ _⟩, ⟨Below.refl _ _⟩⟩
    case round =>
      obtain ⟨i, A, c, rfl, rfl, HI, HR, HB⟩ := hrel
      obtain ⟨wo, rfl⟩ : ∃ wo : World, wo = wr := ⟨wr, rfl⟩
      by_cases hlt : i < l1.length
      · have hltz : (i : Int) < (l1.length : Int) := by omega
        have hi0 : (0 : Int) ≤ (i : Int) := by omega
        obtain ⟨ad1, e1, hx1⟩ := Kd.at_int HR1.out i hi0 hltz
        cases e1
        replace hx1 := (HB.out.cell (World.block_lt_of_cell? w _ hx1)).trans hx1
        rw [Int.toNat_natCast] at hx1
        obtain ⟨x, hxx⟩ : ∃ x, rd l1 (i : Int) = x := ⟨_, rfl⟩
        rw [hxx] at hx1
        have HXX := Aside0.mk hxx
        clear hxx
        obtain ⟨O, hO⟩ : ∃ O, risR (l1.take i) = O := ⟨_, rfl⟩
        have HO := Aside0.mk hO
        have HLO := Aside0.mk (show O.length = i by rw [← hO, risR_length, List.length_take]; omega)
        rw [hO] at HR ⊢
        clear hO
        have HRC := Aside0.mk (Kd.R_reads' HR.out)
        have HTK := Aside0.mk (show l1.take (i + 1) = l1.take i ++ [x] by rw [List.take_add_one, List.getElem?_eq_getElem hlt, ← HXX.out, rd_nat, List.getD_eq_getElem?_getD, List.getElem?_eq_getElem hlt]; rfl)
        have hOl : O.length ≤ 1000 := by have := HLO.out; omega
        go_wp2
        obtain ⟨G, rfl⟩ : ∃ G, G = gk := ⟨gk, rfl⟩
        go_loopg [6] O.length (fun gg s6 wr => wr = wo ∧ ∃ (j : Nat), s6 = .int .i64 j ∧ Aside0 (j + gg = O.length) ∧ Aside0 (∀ i, i < j → O.getD i 0 ≤ x))
        case atStart => exact ⟨rfl, 0, rfl, ⟨by omega⟩, ⟨fun i hi => absurd hi (by omega)⟩⟩
        case round =>
          obtain ⟨rfl, j, rfl, HJ, HA⟩ := hrel
          by_cases hj : j < O.length
          · have hjz : (j : Int) < (O.length : Int) := by omega
            have hj0 : (0 : Int) ≤ (j : Int) := by omega
            obtain ⟨ad2, e2, hx2⟩ := Kd.at_int HRC.out.2.2 j hj0 hjz
            cases e2
            rw [Int.toNat_natCast, rd_nat] at hx2
            obtain ⟨y, hy⟩ : ∃ y, O.getD j 0 = y := ⟨_, rfl⟩
            rw [hy] at hx2
            have HY := Aside0.mk hy
            clear hy
            by_cases hyx : y ≤ x
            · have q1 : decide (y ≤ x) = true := decide_eq_true hyx
              clear hyx
              go_wp2
              go_roundg (gk - 1)
              case measure => have := HJ.out; omega
              case rel => exact ⟨rfl, j + 1, by go_num, ⟨by have := HJ.out; omega⟩, ⟨fun i hi => by
                rcases Nat.lt_or_ge i j with h | h
                · exact HA.out i h
                · have : i = j := by omega
                  subst this
                  rw [HY.out]; exact of_decide_eq_true q1⟩⟩
            · have q1 : decide (y ≤ x) = false := decide_eq_false hyx
              have HI9 := Aside0.mk (insR_at x O j (by have := HJ.out; omega) HA.out (fun _ => by rw [HY.out]; exact hyx))
              clear hyx
              go_wp2
              clear hx2
              have hjl : j ≤ O.length := by have := HJ.out; omega
              have hjc : j ≤ c := Nat.le_trans hjl HRC.out.2.1
              have HT1 : ∀ W', Below wr.heap.size wr W' → Kd.C (Kd.int .i64) W' (some ad2) j (O.take j) := fun W' hb => C_upto (Kd.C_below HRC.out.2.2 hb) hjl
              have HT2 : ∀ W', Below wr.heap.size wr W' → Kd.C (Kd.int .i64) W' (if c = j then some ad2 else some (ad2.add j)) (O.length - j) (O.drop j) := fun W' hb => C_from (Kd.C_below HRC.out.2.2 hb) hjl HRC.out.2.1
              have hbs : Below wr.heap.size wr wr.drew := below_drew (Below.refl _ _)
              refine start_ (n := 13) (S := fun _ => True) (ds := []) #[false, false, false, false, false, false, false, false, false, false, false, false, false] (by kernel_rfl) rfl rfl trivial (fun _ => ?_)
              refine pure_ (i := 1) (N := some 28) (v := ?_) (a' := ?_) #[false, true, false, false, false, false, false, false, false, false, false, false, false] rfl rfl (by kernel_rfl) (fun _ _ _ h => h) (Or.inl ⟨by rfl, ?_⟩) ?_ ?_
              rotate_left
              · intro w'
                go_simp
                with_reducible rfl
              rotate_left
              · simp only [Act.put, List.setIfInBounds_toArray, List.set_cons_zero, List.set_cons_succ, i64_w, i32_w]
                rfl
              refine pure_ (i := 2) (N := some 29) (v := ?_) (a' := ?_) #[false, true, true, false, false, false, false, false, false, false, false, false, false] rfl rfl (by kernel_rfl) (fun _ _ _ h => h) (Or.inl ⟨by rfl, ?_⟩) ?_ ?_
              rotate_left
              · intro w'
                go_simp
                with_reducible rfl
              rotate_left
              · simp only [Act.put, List.setIfInBounds_toArray, List.set_cons_zero, List.set_cons_succ, i64_w, i32_w]
                rfl
              refine pure_ (i := 3) (N := some 30) (v := ?_) (a' := ?_) #[false, true, true, true, false, false, false, false, false, false, false, false, false] rfl rfl (by kernel_rfl) (fun _ _ _ h => h) (Or.inl ⟨by rfl, ?_⟩) ?_ ?_
              rotate_left
              · intro w'
                go_simp
                with_reducible rfl
              rotate_left
              · simp only [Act.put, List.setIfInBounds_toArray, List.set_cons_zero, List.set_cons_succ, i64_w, i32_w]
                rfl
              refine pure_ (i := 5) (N := some 32) (v := ?_) (a' := ?_) #[false, true, true, true, false, true, false, false, false, false, false, false, false] rfl rfl (by kernel_rfl) (fun _ _ _ h => h) (Or.inl ⟨by rfl, ?_⟩) ?_ ?_
              rotate_left
              · intro w'
                go_simp
                with_reducible rfl
              rotate_left
              · simp only [Act.put, List.setIfInBounds_toArray, List.set_cons_zero, List.set_cons_succ, i64_w, i32_w]
                rfl
              refine pure_ (i := 8) (N := some 35) (v := ?_) (a' := ?_) #[false, true, true, true, false, true, false, false, true, false, false, false, false] rfl rfl (by kernel_rfl) (fun _ _ _ h => h) (Or.inl ⟨by rfl, ?_⟩) ?_ ?_
              rotate_left
              · intro w'
                go_simp
                with_reducible rfl
              rotate_left
              · simp only [Act.put, List.setIfInBounds_toArray, List.set_cons_zero, List.set_cons_succ, i64_w, i32_w]
                rfl
              refine pure_ (i := 9) (N := some 36) (v := ?_) (a' := ?_) #[false, true, true, true, false, true, false, false, true, true, false, false, false] rfl rfl (by kernel_rfl) (fun _ _ _ h => h) (Or.inl ⟨by rfl, ?_⟩) ?_ ?_
              rotate_left
              · intro w'
                go_simp
                with_reducible rfl
              rotate_left
              · simp only [Act.put, List.setIfInBounds_toArray, List.set_cons_zero, List.set_cons_succ, i64_w, i32_w]
                rfl
              refine pure_ (i := 10) (N := some 37) (v := ?_) (a' := ?_) #[false, true, true, true, false, true, false, false, true, true, true, false, false] rfl rfl (by kernel_rfl) (fun _ _ _ h => h) (Or.inl ⟨by rfl, ?_⟩) ?_ ?_
              rotate_left
              · intro w'
                go_simp
                with_reducible rfl
              rotate_left
              · simp only [Act.put, List.setIfInBounds_toArray, List.set_cons_zero, List.set_cons_succ, i64_w, i32_w]
                rfl
              refine join_ (σ := Value × Value × Option Addr × Nat) 3 #[true, true, true, true, true, true, true, false, true, true, true, false, false] (fun s => [(27, s.1), (31, s.2.1), (33, .slice s.2.2.1 1 s.2.2.2)]) (fun s w' => Kd.R (Kd.int .i64) 3 w' wr.heap.size (fun _ => True) s.2.1 (O.take j) ∧ Kd.C (Kd.int .i64) w' s.2.2.1 1 [x] ∧ Below wr.heap.size wr w') ?tail (fun hjoin => ?_)
              case tail =>
                rintro ⟨v27, v31, A33, c33⟩ w5 ⟨ho31, hC33, hb5⟩
                refine norm_ (a' := ?_) ?_ ?_
                rotate_left
                · simp only [putAll, Act.put, List.setIfInBounds_toArray, List.set_cons_zero, List.set_cons_succ]
                  rfl
                refine one_ (i := 7) (N := some 34) #[true, true, true, true, true, true, true, true, true, true, true, false, false] rfl rfl (by kernel_rfl) (by decide) (fun K hK => ?_)
                refine Kd.R_append_rows_step (Kd.int .i64) (w0 := wr) wr.heap.size (by rfl) (.tmp 31) (.tmp 33) 23 3 (.int .i64 0) 8 rfl Try.underlying23 info3 rfl (by decide) (by omega) v31 (O.take j) [x] A33 1 c33 (fun _ => True) (fun _ => False) rfl rfl ho31 hC33 (fun _ _ h => h) (fun _ h => h.elim) (fun _ _ => trivial) hb5 (below_size hb5) (by simp; omega) ?_
                rintro v34 w6 ho34 hb6 hg34 -
                refine hK.out _ _ trivial (fun _ => ?_)
                clear hK K
                refine norm_ (a' := ?_) ?_ ?_
                rotate_left
                · show Act.put _ (some 34) _ = _
                  simp only [Act.put, List.setIfInBounds_toArray, List.set_cons_zero, List.set_cons_succ, i64_w, i32_w]
                  rfl
                refine one_ (i := 11) (N := some 38) #[true, true, true, true, true, true, true, true, true, true, true, true, false] rfl rfl (by kernel_rfl) (by decide) (fun K hK => ?_)
                refine Kd.R_append_rows_step (Kd.int .i64) (w0 := wr) wr.heap.size (by rfl) (.tmp 34) (.tmp 37) 23 3 (.int .i64 0) 8 rfl Try.underlying23 info3 rfl (by decide) (by omega) v34 (O.take j ++ [x]) (O.drop j) (if c = j then some ad2 else some (ad2.add j)) (O.length - j) (c - j) (fun _ => True) (fun _ => False) rfl rfl ho34 (HT2 _ hb6) (fun _ _ h => h) (fun _ h => h.elim) (fun _ _ => trivial) hb6 (below_size hb6) (by simp; omega) ?_
                rintro v38 w7 ho38 hb7 hg38 -
                obtain ⟨A9, c9, rfl⟩ := Kd.R_slice ho38
                refine hK.out _ _ trivial (fun _ => ?_)
                clear hK K
                refine norm_ (a' := ?_) ?_ ?_
                rotate_left
                · show Act.put _ (some 38) _ = _
                  simp only [Act.put, List.setIfInBounds_toArray, List.set_cons_zero, List.set_cons_succ, i64_w, i32_w]
                  rfl
                refine pure_ (i := 12) (N := some 3) (v := ?_) (a' := ?_) #[true, true, true, true, true, true, true, true, true, true, true, true, true] rfl rfl (by kernel_rfl) (fun _ _ _ h => h) (Or.inl ⟨by rfl, ?_⟩) ?_ ?_
                rotate_left
                · intro w'
                  go_simp
                  with_reducible rfl
                rotate_left
                · simp only [Act.put, List.setIfInBounds_toArray, List.set_cons_zero, List.set_cons_succ, i64_w, i32_w]
                  rfl
                refine done_ (by kernel_rfl) ?_
                have HEQ := Aside0.mk (show O.take j ++ [x] ++ O.drop j = risR (l1.take (i + 1)) by rw [HTK.out, risR_snoc, HO.out, HI9.out]; simp)
                have HO38 := Aside0.mk ho38
                have HB7 := Aside0.mk hb7
                clear ho31 hC33 hb5 ho34 hb6 hg34 ho38 hb7 hg38 HT1 HT2
                obtain ⟨L9, hL9⟩ : ∃ L9, (O.take j ++ [x] ++ O.drop j).length = L9 := ⟨_, rfl⟩
                rw [hL9]
                have HL9 := Aside0.mk hL9
                clear hL9
                try (generalize (if c = j then some ad2 else some (ad2.add j)) = A77)
                go_wp2
                go_roundg (G - 1)
                case measure => have := HI.out; omega
                case rel => exact ⟨i + 1, A9, c9, by go_num, (by rw [← HEQ.out, HL9.out]; have h6 := HL9.out; simp only [List.length_append, List.length_take, List.length_drop, List.length_cons, List.length_nil] at h6; rw [show j + (O.length - j + 1) = L9 by omega]), ⟨by have := HI.out; omega⟩, ⟨by rw [← HEQ.out]; exact Kd.R_lower HO38.out (below_size HB.out)⟩, ⟨HB.out.trans (HB7.out.mono (below_size HB.out))⟩⟩
              refine two_ (i := 0) (j := 6) (Ni := some 27) (Nj := some 33) #[true, true, true, true, false, true, false, false, true, true, true, false, false] #[false, true, true, true, false, true, true, false, true, true, true, false, false] rfl rfl rfl rfl (by kernel_rfl) (by decide) (by decide) (fun K hK => ?_) (fun K hK => ?_)
              · skip
                refine Kd.R_lit_step (Kd.int .i64) (w0 := wr) wr.heap.size 3 (by rfl) (N := 27) rfl (xs := []) (inner := []) (ok := fun _ => True) (okp := fun _ => False) ?hr (Reps.none _ _) (fun _ h => h.elim) trivial hbs (below_size hbs) (by simp) ?_
                case hr => first | (go_simp; done) | (go_simp; rfl)
                rintro v27 w1 ho27 hb27 hg27 -
                refine hK.out _ _ trivial (fun _ => ?_)
                clear hK K
                refine norm_ (a' := ?_) ?_ ?_
                rotate_left
                · show Act.put _ (some 27) _ = _
                  simp only [Act.put, List.setIfInBounds_toArray, List.set_cons_zero, List.set_cons_succ, i64_w, i32_w]
                  rfl
                refine two_ (i := 4) (j := 6) (Ni := some 31) (Nj := some 33) #[true, true, true, true, true, true, false, false, true, true, true, false, false] #[true, true, true, true, false, true, true, false, true, true, true, false, false] rfl rfl rfl rfl (by kernel_rfl) (by decide) (by decide) (fun K hK => ?_) (fun K hK => ?_)
                · skip
                  refine Kd.R_append_rows_step (Kd.int .i64) (w0 := wr) wr.heap.size (by rfl) (.tmp 27) (.tmp 30) 23 3 (.int .i64 0) 8 rfl Try.underlying23 info3 rfl (by decide) (by omega) v27 [] (O.take j) (some ad2) j c (fun _ => True) (fun _ => False) rfl rfl ho27 (HT1 _ hb27) (fun _ _ h => h) (fun _ h => h.elim) (fun _ _ => trivial) hb27 (below_size hb27) (by simp; omega) ?_
                  rintro v31 w2 ho31 hb31 hg31 -
                  refine hK.out _ _ trivial (fun _ => ?_)
                  clear hK K
                  refine norm_ (a' := ?_) ?_ ?_
                  rotate_left
                  · show Act.put _ (some 31) _ = _
                    simp only [Act.put, List.setIfInBounds_toArray, List.set_cons_zero, List.set_cons_succ, i64_w, i32_w]
                    rfl
                  refine one_ (i := 6) (N := some 33) #[true, true, true, true, true, true, true, false, true, true, true, false, false] rfl rfl (by kernel_rfl) (by decide) (fun K hK => ?_)
                  refine Kd.R_lit_step (Kd.int .i64) (w0 := wr) wr.heap.size 3 (by rfl) (N := 33) rfl (xs := [x]) (inner := [.int .i64 x]) (ok := fun _ => True) (okp := fun _ => False) ?hr (Reps.one rfl (Reps.none _ _)) (fun _ h => h.elim) trivial hb31 (below_size hb31) (by simp) ?_
                  case hr => first | (go_simp; done) | (go_simp; rfl)
                  rintro v33 w3 ho33 hb33 hg33 ⟨b33, e33, l33⟩
                  obtain ⟨A33, c33, rfl⟩ := Kd.R_slice ho33
                  refine hK.out _ _ trivial (fun _ => ?_)
                  clear hK K
                  refine norm_ (a' := ?_) ?_ ?_
                  rotate_left
                  · show Act.put _ (some 33) _ = _
                    simp only [Act.put, List.setIfInBounds_toArray, List.set_cons_zero, List.set_cons_succ, i64_w, i32_w]
                    rfl
                  have ho31 := Kd.R_step ho31 (fun k _ hk => hg33.block k hk (fun e => by cases e))
                  exact norm_ (by simp only [putAll, Act.put, List.setIfInBounds_toArray, List.set_cons_zero, List.set_cons_succ]; rfl) (hjoin (v27, v31, A33, c33) w3 ⟨ho31, (Kd.R_reads' ho33).2.2, hb33⟩)
                · skip
                  refine Kd.R_lit_step (Kd.int .i64) (w0 := wr) wr.heap.size 3 (by rfl) (N := 33) rfl (xs := [x]) (inner := [.int .i64 x]) (ok := fun _ => True) (okp := fun _ => False) ?hr (Reps.one rfl (Reps.none _ _)) (fun _ h => h.elim) trivial hb27 (below_size hb27) (by simp) ?_
                  case hr => first | (go_simp; done) | (go_simp; rfl)
                  rintro v33 w2 ho33 hb33 hg33 ⟨b33, e33, l33⟩
                  obtain ⟨A33, c33, rfl⟩ := Kd.R_slice ho33
                  refine hK.out _ _ trivial (fun _ => ?_)
                  clear hK K
                  refine norm_ (a' := ?_) ?_ ?_
                  rotate_left
                  · show Act.put _ (some 33) _ = _
                    simp only [Act.put, List.setIfInBounds_toArray, List.set_cons_zero, List.set_cons_succ, i64_w, i32_w]
                    rfl
                  have l27 := Kd.R_lt ho27
                  have ho27 := Kd.R_step ho27 (fun k _ hk => hg33.block k hk (fun e => by cases e))
                  refine one_ (i := 4) (N := some 31) #[true, true, true, true, true, true, true, false, true, true, true, false, false] rfl rfl (by kernel_rfl) (by decide) (fun K hK => ?_)
                  refine Kd.R_append_rows_step (Kd.int .i64) (w0 := wr) wr.heap.size (by rfl) (.tmp 27) (.tmp 30) 23 3 (.int .i64 0) 8 rfl Try.underlying23 info3 rfl (by decide) (by omega) v27 [] (O.take j) (some ad2) j c (fun _ => True) (fun _ => False) rfl rfl ho27 (HT1 _ hb33) (fun _ _ h => h) (fun _ h => h.elim) (fun _ _ => trivial) hb33 (below_size hb33) (by simp; omega) ?_
                  rintro v31 w3 ho31 hb31 hg31 -
                  refine hK.out _ _ trivial (fun _ => ?_)
                  clear hK K
                  refine norm_ (a' := ?_) ?_ ?_
                  rotate_left
                  · show Act.put _ (some 31) _ = _
                    simp only [Act.put, List.setIfInBounds_toArray, List.set_cons_zero, List.set_cons_succ, i64_w, i32_w]
                    rfl
                  have ho33 := Kd.R_step (R_only9 ho33 (ok' := fun k => k = b33) (fun k hk => Option.some.inj (hk.symm.trans e33))) (fun k hk hk2 => hg31.block k hk2 (fun e => by have := l27 k e.symm; omega))
                  exact norm_ (by simp only [putAll, Act.put, List.setIfInBounds_toArray, List.set_cons_zero, List.set_cons_succ]; rfl) (hjoin (v27, v31, A33, c33) w3 ⟨ho31, (Kd.R_reads' ho33).2.2, hb31⟩)
              · skip
                refine Kd.R_lit_step (Kd.int .i64) (w0 := wr) wr.heap.size 3 (by rfl) (N := 33) rfl (xs := [x]) (inner := [.int .i64 x]) (ok := fun _ => True) (okp := fun _ => False) ?hr (Reps.one rfl (Reps.none _ _)) (fun _ h => h.elim) trivial hbs (below_size hbs) (by simp) ?_
                case hr => first | (go_simp; done) | (go_simp; rfl)
                rintro v33 w1 ho33 hb33 hg33 ⟨b33, e33, l33⟩
                obtain ⟨A33, c33, rfl⟩ := Kd.R_slice ho33
                refine hK.out _ _ trivial (fun _ => ?_)
                clear hK K
                refine norm_ (a' := ?_) ?_ ?_
                rotate_left
                · show Act.put _ (some 33) _ = _
                  simp only [Act.put, List.setIfInBounds_toArray, List.set_cons_zero, List.set_cons_succ, i64_w, i32_w]
                  rfl
                have l33 := Kd.R_lt ho33
                refine one_ (i := 0) (N := some 27) #[true, true, true, true, false, true, true, false, true, true, true, false, false] rfl rfl (by kernel_rfl) (by decide) (fun K hK => ?_)
                refine Kd.R_lit_step (Kd.int .i64) (w0 := wr) wr.heap.size 3 (by rfl) (N := 27) rfl (xs := []) (inner := []) (ok := fun _ => True) (okp := fun _ => False) ?hr (Reps.none _ _) (fun _ h => h.elim) trivial hb33 (below_size hb33) (by simp) ?_
                case hr => first | (go_simp; done) | (go_simp; rfl)
                rintro v27 w2 ho27 hb27 hg27 ⟨b27, e27, l27⟩
                refine hK.out _ _ trivial (fun _ => ?_)
                clear hK K
                refine norm_ (a' := ?_) ?_ ?_
                rotate_left
                · show Act.put _ (some 27) _ = _
                  simp only [Act.put, List.setIfInBounds_toArray, List.set_cons_zero, List.set_cons_succ, i64_w, i32_w]
                  rfl
                have ho33 := Kd.R_step ho33 (fun k _ hk => hg27.block k hk (fun e => by cases e))
                refine one_ (i := 4) (N := some 31) #[true, true, true, true, true, true, true, false, true, true, true, false, false] rfl rfl (by kernel_rfl) (by decide) (fun K hK => ?_)
                refine Kd.R_append_rows_step (Kd.int .i64) (w0 := wr) wr.heap.size (by rfl) (.tmp 27) (.tmp 30) 23 3 (.int .i64 0) 8 rfl Try.underlying23 info3 rfl (by decide) (by omega) v27 [] (O.take j) (some ad2) j c (fun _ => True) (fun _ => False) rfl rfl ho27 (HT1 _ hb27) (fun _ _ h => h) (fun _ h => h.elim) (fun _ _ => trivial) hb27 (below_size hb27) (by simp; omega) ?_
                rintro v31 w3 ho31 hb31 hg31 -
                refine hK.out _ _ trivial (fun _ => ?_)
                clear hK K
                refine norm_ (a' := ?_) ?_ ?_
                rotate_left
                · show Act.put _ (some 31) _ = _
                  simp only [Act.put, List.setIfInBounds_toArray, List.set_cons_zero, List.set_cons_succ, i64_w, i32_w]
                  rfl
                have ho33 := Kd.R_step (R_only9 ho33 (ok' := fun k => k = b33) (fun k hk => Option.some.inj (hk.symm.trans e33))) (fun k hk hk2 => hg31.block k hk2 (fun e => by have := l33 b33 e33; rw [e27] at e; injection e with e; omega))
                exact norm_ (by simp only [putAll, Act.put, List.setIfInBounds_toArray, List.set_cons_zero, List.set_cons_succ]; rfl) (hjoin (v27, v31, A33, c33) w3 ⟨ho31, (Kd.R_reads' ho33).2.2, hb31⟩)
          · have hjz : ¬ (j : Int) < (O.length : Int) := by omega
            have HI9 := Aside0.mk (insR_at x O j (by have := HJ.out; omega) HA.out (fun h => absurd h hj))
            have hjl : j ≤ O.length := by have := HJ.out; omega
            have hjc : j ≤ c := Nat.le_trans hjl HRC.out.2.1
            go_wp2
            cases A with
            | none =>
              have HT1 : ∀ W', Below wr.heap.size wr W' → Kd.C (Kd.int .i64) W' none j (O.take j) := fun W' hb => C_upto (Kd.C_below HRC.out.2.2 hb) hjl
              have HT2 : ∀ W', Below wr.heap.size wr W' → Kd.C (Kd.int .i64) W' none (O.length - j) (O.drop j) := fun W' hb => C_fromN (Kd.C_below HRC.out.2.2 hb) hjl
              have hbs : Below wr.heap.size wr wr.drew := below_drew (Below.refl _ _)
              refine start_ (n := 13) (S := fun _ => True) (ds := []) #[false, false, false, false, false, false, false, false, false, false, false, false, false] (by kernel_rfl) rfl rfl trivial (fun _ => ?_)
              refine pure_ (i := 1) (N := some 28) (v := ?_) (a' := ?_) #[false, true, false, false, false, false, false, false, false, false, false, false, false] rfl rfl (by kernel_rfl) (fun _ _ _ h => h) (Or.inl ⟨by rfl, ?_⟩) ?_ ?_
              rotate_left
              · intro w'
                go_simp
                with_reducible rfl
              rotate_left
              · simp only [Act.put, List.setIfInBounds_toArray, List.set_cons_zero, List.set_cons_succ, i64_w, i32_w]
                rfl
              refine pure_ (i := 2) (N := some 29) (v := ?_) (a' := ?_) #[false, true, true, false, false, false, false, false, false, false, false, false, false] rfl rfl (by kernel_rfl) (fun _ _ _ h => h) (Or.inl ⟨by rfl, ?_⟩) ?_ ?_
              rotate_left
              · intro w'
                go_simp
                with_reducible rfl
              rotate_left
              · simp only [Act.put, List.setIfInBounds_toArray, List.set_cons_zero, List.set_cons_succ, i64_w, i32_w]
                rfl
              refine pure_ (i := 3) (N := some 30) (v := ?_) (a' := ?_) #[false, true, true, true, false, false, false, false, false, false, false, false, false] rfl rfl (by kernel_rfl) (fun _ _ _ h => h) (Or.inl ⟨by rfl, ?_⟩) ?_ ?_
              rotate_left
              · intro w'
                go_simp
                with_reducible rfl
              rotate_left
              · simp only [Act.put, List.setIfInBounds_toArray, List.set_cons_zero, List.set_cons_succ, i64_w, i32_w]
                rfl
              refine pure_ (i := 5) (N := some 32) (v := ?_) (a' := ?_) #[false, true, true, true, false, true, false, false, false, false, false, false, false] rfl rfl (by kernel_rfl) (fun _ _ _ h => h) (Or.inl ⟨by rfl, ?_⟩) ?_ ?_
              rotate_left
              · intro w'
                go_simp
                with_reducible rfl
              rotate_left
              · simp only [Act.put, List.setIfInBounds_toArray, List.set_cons_zero, List.set_cons_succ, i64_w, i32_w]
                rfl
              refine pure_ (i := 8) (N := some 35) (v := ?_) (a' := ?_) #[false, true, true, true, false, true, false, false, true, false, false, false, false] rfl rfl (by kernel_rfl) (fun _ _ _ h => h) (Or.inl ⟨by rfl, ?_⟩) ?_ ?_
              rotate_left
              · intro w'
                go_simp
                with_reducible rfl
              rotate_left
              · simp only [Act.put, List.setIfInBounds_toArray, List.set_cons_zero, List.set_cons_succ, i64_w, i32_w]
                rfl
              refine pure_ (i := 9) (N := some 36) (v := ?_) (a' := ?_) #[false, true, true, true, false, true, false, false, true, true, false, false, false] rfl rfl (by kernel_rfl) (fun _ _ _ h => h) (Or.inl ⟨by rfl, ?_⟩) ?_ ?_
              rotate_left
              · intro w'
                go_simp
                with_reducible rfl
              rotate_left
              · simp only [Act.put, List.setIfInBounds_toArray, List.set_cons_zero, List.set_cons_succ, i64_w, i32_w]
                rfl
              refine pure_ (i := 10) (N := some 37) (v := ?_) (a' := ?_) #[false, true, true, true, false, true, false, false, true, true, true, false, false] rfl rfl (by kernel_rfl) (fun _ _ _ h => h) (Or.inl ⟨by rfl, ?_⟩) ?_ ?_
              rotate_left
              · intro w'
                go_simp
                with_reducible rfl
              rotate_left
              · simp only [Act.put, List.setIfInBounds_toArray, List.set_cons_zero, List.set_cons_succ, i64_w, i32_w]
                rfl
              refine join_ (σ := Value × Value × Option Addr × Nat) 3 #[true, true, true, true, true, true, true, false, true, true, true, false, false] (fun s => [(27, s.1), (31, s.2.1), (33, .slice s.2.2.1 1 s.2.2.2)]) (fun s w' => Kd.R (Kd.int .i64) 3 w' wr.heap.size (fun _ => True) s.2.1 (O.take j) ∧ Kd.C (Kd.int .i64) w' s.2.2.1 1 [x] ∧ Below wr.heap.size wr w') ?tail (fun hjoin => ?_)
              case tail =>
                rintro ⟨v27, v31, A33, c33⟩ w5 ⟨ho31, hC33, hb5⟩
                refine norm_ (a' := ?_) ?_ ?_
                rotate_left
                · simp only [putAll, Act.put, List.setIfInBounds_toArray, List.set_cons_zero, List.set_cons_succ]
                  rfl
                refine one_ (i := 7) (N := some 34) #[true, true, true, true, true, true, true, true, true, true, true, false, false] rfl rfl (by kernel_rfl) (by decide) (fun K hK => ?_)
                refine Kd.R_append_rows_step (Kd.int .i64) (w0 := wr) wr.heap.size (by rfl) (.tmp 31) (.tmp 33) 23 3 (.int .i64 0) 8 rfl Try.underlying23 info3 rfl (by decide) (by omega) v31 (O.take j) [x] A33 1 c33 (fun _ => True) (fun _ => False) rfl rfl ho31 hC33 (fun _ _ h => h) (fun _ h => h.elim) (fun _ _ => trivial) hb5 (below_size hb5) (by simp; omega) ?_
                rintro v34 w6 ho34 hb6 hg34 -
                refine hK.out _ _ trivial (fun _ => ?_)
                clear hK K
                refine norm_ (a' := ?_) ?_ ?_
                rotate_left
                · show Act.put _ (some 34) _ = _
                  simp only [Act.put, List.setIfInBounds_toArray, List.set_cons_zero, List.set_cons_succ, i64_w, i32_w]
                  rfl
                refine one_ (i := 11) (N := some 38) #[true, true, true, true, true, true, true, true, true, true, true, true, false] rfl rfl (by kernel_rfl) (by decide) (fun K hK => ?_)
                refine Kd.R_append_rows_step (Kd.int .i64) (w0 := wr) wr.heap.size (by rfl) (.tmp 34) (.tmp 37) 23 3 (.int .i64 0) 8 rfl Try.underlying23 info3 rfl (by decide) (by omega) v34 (O.take j ++ [x]) (O.drop j) none (O.length - j) (c - j) (fun _ => True) (fun _ => False) rfl rfl ho34 (HT2 _ hb6) (fun _ _ h => h) (fun _ h => h.elim) (fun _ _ => trivial) hb6 (below_size hb6) (by simp; omega) ?_
                rintro v38 w7 ho38 hb7 hg38 -
                obtain ⟨A9, c9, rfl⟩ := Kd.R_slice ho38
                refine hK.out _ _ trivial (fun _ => ?_)
                clear hK K
                refine norm_ (a' := ?_) ?_ ?_
                rotate_left
                · show Act.put _ (some 38) _ = _
                  simp only [Act.put, List.setIfInBounds_toArray, List.set_cons_zero, List.set_cons_succ, i64_w, i32_w]
                  rfl
                refine pure_ (i := 12) (N := some 3) (v := ?_) (a' := ?_) #[true, true, true, true, true, true, true, true, true, true, true, true, true] rfl rfl (by kernel_rfl) (fun _ _ _ h => h) (Or.inl ⟨by rfl, ?_⟩) ?_ ?_
                rotate_left
                · intro w'
                  go_simp
                  with_reducible rfl
                rotate_left
                · simp only [Act.put, List.setIfInBounds_toArray, List.set_cons_zero, List.set_cons_succ, i64_w, i32_w]
                  rfl
                refine done_ (by kernel_rfl) ?_
                have HEQ := Aside0.mk (show O.take j ++ [x] ++ O.drop j = risR (l1.take (i + 1)) by rw [HTK.out, risR_snoc, HO.out, HI9.out]; simp)
                have HO38 := Aside0.mk ho38
                have HB7 := Aside0.mk hb7
                clear ho31 hC33 hb5 ho34 hb6 hg34 ho38 hb7 hg38 HT1 HT2
                obtain ⟨L9, hL9⟩ : ∃ L9, (O.take j ++ [x] ++ O.drop j).length = L9 := ⟨_, rfl⟩
                rw [hL9]
                have HL9 := Aside0.mk hL9
                clear hL9
                try (generalize (if c = j then some ad2 else some (ad2.add j)) = A77)
                go_wp2
                go_roundg (G - 1)
                case measure => have := HI.out; omega
                case rel => exact ⟨i + 1, A9, c9, by go_num, (by rw [← HEQ.out, HL9.out]; have h6 := HL9.out; simp only [List.length_append, List.length_take, List.length_drop, List.length_cons, List.length_nil] at h6; rw [show j + (O.length - j + 1) = L9 by omega]), ⟨by have := HI.out; omega⟩, ⟨by rw [← HEQ.out]; exact Kd.R_lower HO38.out (below_size HB.out)⟩, ⟨HB.out.trans (HB7.out.mono (below_size HB.out))⟩⟩
              refine two_ (i := 0) (j := 6) (Ni := some 27) (Nj := some 33) #[true, true, true, true, false, true, false, false, true, true, true, false, false] #[false, true, true, true, false, true, true, false, true, true, true, false, false] rfl rfl rfl rfl (by kernel_rfl) (by decide) (by decide) (fun K hK => ?_) (fun K hK => ?_)
              · skip
                refine Kd.R_lit_step (Kd.int .i64) (w0 := wr) wr.heap.size 3 (by rfl) (N := 27) rfl (xs := []) (inner := []) (ok := fun _ => True) (okp := fun _ => False) ?hr (Reps.none _ _) (fun _ h => h.elim) trivial hbs (below_size hbs) (by simp) ?_
                case hr => first | (go_simp; done) | (go_simp; rfl)
                rintro v27 w1 ho27 hb27 hg27 -
                refine hK.out _ _ trivial (fun _ => ?_)
                clear hK K
                refine norm_ (a' := ?_) ?_ ?_
                rotate_left
                · show Act.put _ (some 27) _ = _
                  simp only [Act.put, List.setIfInBounds_toArray, List.set_cons_zero, List.set_cons_succ, i64_w, i32_w]
                  rfl
                refine two_ (i := 4) (j := 6) (Ni := some 31) (Nj := some 33) #[true, true, true, true, true, true, false, false, true, true, true, false, false] #[true, true, true, true, false, true, true, false, true, true, true, false, false] rfl rfl rfl rfl (by kernel_rfl) (by decide) (by decide) (fun K hK => ?_) (fun K hK => ?_)
                · skip
                  refine Kd.R_append_rows_step (Kd.int .i64) (w0 := wr) wr.heap.size (by rfl) (.tmp 27) (.tmp 30) 23 3 (.int .i64 0) 8 rfl Try.underlying23 info3 rfl (by decide) (by omega) v27 [] (O.take j) none j c (fun _ => True) (fun _ => False) rfl rfl ho27 (HT1 _ hb27) (fun _ _ h => h) (fun _ h => h.elim) (fun _ _ => trivial) hb27 (below_size hb27) (by simp; omega) ?_
                  rintro v31 w2 ho31 hb31 hg31 -
                  refine hK.out _ _ trivial (fun _ => ?_)
                  clear hK K
                  refine norm_ (a' := ?_) ?_ ?_
                  rotate_left
                  · show Act.put _ (some 31) _ = _
                    simp only [Act.put, List.setIfInBounds_toArray, List.set_cons_zero, List.set_cons_succ, i64_w, i32_w]
                    rfl
                  refine one_ (i := 6) (N := some 33) #[true, true, true, true, true, true, true, false, true, true, true, false, false] rfl rfl (by kernel_rfl) (by decide) (fun K hK => ?_)
                  refine Kd.R_lit_step (Kd.int .i64) (w0 := wr) wr.heap.size 3 (by rfl) (N := 33) rfl (xs := [x]) (inner := [.int .i64 x]) (ok := fun _ => True) (okp := fun _ => False) ?hr (Reps.one rfl (Reps.none _ _)) (fun _ h => h.elim) trivial hb31 (below_size hb31) (by simp) ?_
                  case hr => first | (go_simp; done) | (go_simp; rfl)
                  rintro v33 w3 ho33 hb33 hg33 ⟨b33, e33, l33⟩
                  obtain ⟨A33, c33, rfl⟩ := Kd.R_slice ho33
                  refine hK.out _ _ trivial (fun _ => ?_)
                  clear hK K
                  refine norm_ (a' := ?_) ?_ ?_
                  rotate_left
                  · show Act.put _ (some 33) _ = _
                    simp only [Act.put, List.setIfInBounds_toArray, List.set_cons_zero, List.set_cons_succ, i64_w, i32_w]
                    rfl
                  have ho31 := Kd.R_step ho31 (fun k _ hk => hg33.block k hk (fun e => by cases e))
                  exact norm_ (by simp only [putAll, Act.put, List.setIfInBounds_toArray, List.set_cons_zero, List.set_cons_succ]; rfl) (hjoin (v27, v31, A33, c33) w3 ⟨ho31, (Kd.R_reads' ho33).2.2, hb33⟩)
                · skip
                  refine Kd.R_lit_step (Kd.int .i64) (w0 := wr) wr.heap.size 3 (by rfl) (N := 33) rfl (xs := [x]) (inner := [.int .i64 x]) (ok := fun _ => True) (okp := fun _ => False) ?hr (Reps.one rfl (Reps.none _ _)) (fun _ h => h.elim) trivial hb27 (below_size hb27) (by simp) ?_
                  case hr => first | (go_simp; done) | (go_simp; rfl)
                  rintro v33 w2 ho33 hb33 hg33 ⟨b33, e33, l33⟩
                  obtain ⟨A33, c33, rfl⟩ := Kd.R_slice ho33
                  refine hK.out _ _ trivial (fun _ => ?_)
                  clear hK K
                  refine norm_ (a' := ?_) ?_ ?_
                  rotate_left
                  · show Act.put _ (some 33) _ = _
                    simp only [Act.put, List.setIfInBounds_toArray, List.set_cons_zero, List.set_cons_succ, i64_w, i32_w]
                    rfl
                  have l27 := Kd.R_lt ho27
                  have ho27 := Kd.R_step ho27 (fun k _ hk => hg33.block k hk (fun e => by cases e))
                  refine one_ (i := 4) (N := some 31) #[true, true, true, true, true, true, true, false, true, true, true, false, false] rfl rfl (by kernel_rfl) (by decide) (fun K hK => ?_)
                  refine Kd.R_append_rows_step (Kd.int .i64) (w0 := wr) wr.heap.size (by rfl) (.tmp 27) (.tmp 30) 23 3 (.int .i64 0) 8 rfl Try.underlying23 info3 rfl (by decide) (by omega) v27 [] (O.take j) none j c (fun _ => True) (fun _ => False) rfl rfl ho27 (HT1 _ hb33) (fun _ _ h => h) (fun _ h => h.elim) (fun _ _ => trivial) hb33 (below_size hb33) (by simp; omega) ?_
                  rintro v31 w3 ho31 hb31 hg31 -
                  refine hK.out _ _ trivial (fun _ => ?_)
                  clear hK K
                  refine norm_ (a' := ?_) ?_ ?_
                  rotate_left
                  · show Act.put _ (some 31) _ = _
                    simp only [Act.put, List.setIfInBounds_toArray, List.set_cons_zero, List.set_cons_succ, i64_w, i32_w]
                    rfl
                  have ho33 := Kd.R_step (R_only9 ho33 (ok' := fun k => k = b33) (fun k hk => Option.some.inj (hk.symm.trans e33))) (fun k hk hk2 => hg31.block k hk2 (fun e => by have := l27 k e.symm; omega))
                  exact norm_ (by simp only [putAll, Act.put, List.setIfInBounds_toArray, List.set_cons_zero, List.set_cons_succ]; rfl) (hjoin (v27, v31, A33, c33) w3 ⟨ho31, (Kd.R_reads' ho33).2.2, hb31⟩)
              · skip
                refine Kd.R_lit_step (Kd.int .i64) (w0 := wr) wr.heap.size 3 (by rfl) (N := 33) rfl (xs := [x]) (inner := [.int .i64 x]) (ok := fun _ => True) (okp := fun _ => False) ?hr (Reps.one rfl (Reps.none _ _)) (fun _ h => h.elim) trivial hbs (below_size hbs) (by simp) ?_
                case hr => first | (go_simp; done) | (go_simp; rfl)
                rintro v33 w1 ho33 hb33 hg33 ⟨b33, e33, l33⟩
                obtain ⟨A33, c33, rfl⟩ := Kd.R_slice ho33
                refine hK.out _ _ trivial (fun _ => ?_)
                clear hK K
                refine norm_ (a' := ?_) ?_ ?_
                rotate_left
                · show Act.put _ (some 33) _ = _
                  simp only [Act.put, List.setIfInBounds_toArray, List.set_cons_zero, List.set_cons_succ, i64_w, i32_w]
                  rfl
                have l33 := Kd.R_lt ho33
                refine one_ (i := 0) (N := some 27) #[true, true, true, true, false, true, true, false, true, true, true, false, false] rfl rfl (by kernel_rfl) (by decide) (fun K hK => ?_)
                refine Kd.R_lit_step (Kd.int .i64) (w0 := wr) wr.heap.size 3 (by rfl) (N := 27) rfl (xs := []) (inner := []) (ok := fun _ => True) (okp := fun _ => False) ?hr (Reps.none _ _) (fun _ h => h.elim) trivial hb33 (below_size hb33) (by simp) ?_
                case hr => first | (go_simp; done) | (go_simp; rfl)
                rintro v27 w2 ho27 hb27 hg27 ⟨b27, e27, l27⟩
                refine hK.out _ _ trivial (fun _ => ?_)
                clear hK K
                refine norm_ (a' := ?_) ?_ ?_
                rotate_left
                · show Act.put _ (some 27) _ = _
                  simp only [Act.put, List.setIfInBounds_toArray, List.set_cons_zero, List.set_cons_succ, i64_w, i32_w]
                  rfl
                have ho33 := Kd.R_step ho33 (fun k _ hk => hg27.block k hk (fun e => by cases e))
                refine one_ (i := 4) (N := some 31) #[true, true, true, true, true, true, true, false, true, true, true, false, false] rfl rfl (by kernel_rfl) (by decide) (fun K hK => ?_)
                refine Kd.R_append_rows_step (Kd.int .i64) (w0 := wr) wr.heap.size (by rfl) (.tmp 27) (.tmp 30) 23 3 (.int .i64 0) 8 rfl Try.underlying23 info3 rfl (by decide) (by omega) v27 [] (O.take j) none j c (fun _ => True) (fun _ => False) rfl rfl ho27 (HT1 _ hb27) (fun _ _ h => h) (fun _ h => h.elim) (fun _ _ => trivial) hb27 (below_size hb27) (by simp; omega) ?_
                rintro v31 w3 ho31 hb31 hg31 -
                refine hK.out _ _ trivial (fun _ => ?_)
                clear hK K
                refine norm_ (a' := ?_) ?_ ?_
                rotate_left
                · show Act.put _ (some 31) _ = _
                  simp only [Act.put, List.setIfInBounds_toArray, List.set_cons_zero, List.set_cons_succ, i64_w, i32_w]
                  rfl
                have ho33 := Kd.R_step (R_only9 ho33 (ok' := fun k => k = b33) (fun k hk => Option.some.inj (hk.symm.trans e33))) (fun k hk hk2 => hg31.block k hk2 (fun e => by have := l33 b33 e33; rw [e27] at e; injection e with e; omega))
                exact norm_ (by simp only [putAll, Act.put, List.setIfInBounds_toArray, List.set_cons_zero, List.set_cons_succ]; rfl) (hjoin (v27, v31, A33, c33) w3 ⟨ho31, (Kd.R_reads' ho33).2.2, hb31⟩)
            | some ad2 =>
              have HT1 : ∀ W', Below wr.heap.size wr W' → Kd.C (Kd.int .i64) W' (some ad2) j (O.take j) := fun W' hb => C_upto (Kd.C_below HRC.out.2.2 hb) hjl
              have HT2 : ∀ W', Below wr.heap.size wr W' → Kd.C (Kd.int .i64) W' (if c = j then some ad2 else some (ad2.add j)) (O.length - j) (O.drop j) := fun W' hb => C_from (Kd.C_below HRC.out.2.2 hb) hjl HRC.out.2.1
              have hbs : Below wr.heap.size wr wr.drew := below_drew (Below.refl _ _)
              refine start_ (n := 13) (S := fun _ => True) (ds := []) #[false, false, false, false, false, false, false, false, false, false, false, false, false] (by kernel_rfl) rfl rfl trivial (fun _ => ?_)
              refine pure_ (i := 1) (N := some 28) (v := ?_) (a' := ?_) #[false, true, false, false, false, false, false, false, false, false, false, false, false] rfl rfl (by kernel_rfl) (fun _ _ _ h => h) (Or.inl ⟨by rfl, ?_⟩) ?_ ?_
              rotate_left
              · intro w'
                go_simp
                with_reducible rfl
              rotate_left
              · simp only [Act.put, List.setIfInBounds_toArray, List.set_cons_zero, List.set_cons_succ, i64_w, i32_w]
                rfl
              refine pure_ (i := 2) (N := some 29) (v := ?_) (a' := ?_) #[false, true, true, false, false, false, false, false, false, false, false, false, false] rfl rfl (by kernel_rfl) (fun _ _ _ h => h) (Or.inl ⟨by rfl, ?_⟩) ?_ ?_
              rotate_left
              · intro w'
                go_simp
                with_reducible rfl
              rotate_left
              · simp only [Act.put, List.setIfInBounds_toArray, List.set_cons_zero, List.set_cons_succ, i64_w, i32_w]
                rfl
              refine pure_ (i := 3) (N := some 30) (v := ?_) (a' := ?_) #[false, true, true, true, false, false, false, false, false, false, false, false, false] rfl rfl (by kernel_rfl) (fun _ _ _ h => h) (Or.inl ⟨by rfl, ?_⟩) ?_ ?_
              rotate_left
              · intro w'
                go_simp
                with_reducible rfl
              rotate_left
              · simp only [Act.put, List.setIfInBounds_toArray, List.set_cons_zero, List.set_cons_succ, i64_w, i32_w]
                rfl
              refine pure_ (i := 5) (N := some 32) (v := ?_) (a' := ?_) #[false, true, true, true, false, true, false, false, false, false, false, false, false] rfl rfl (by kernel_rfl) (fun _ _ _ h => h) (Or.inl ⟨by rfl, ?_⟩) ?_ ?_
              rotate_left
              · intro w'
                go_simp
                with_reducible rfl
              rotate_left
              · simp only [Act.put, List.setIfInBounds_toArray, List.set_cons_zero, List.set_cons_succ, i64_w, i32_w]
                rfl
              refine pure_ (i := 8) (N := some 35) (v := ?_) (a' := ?_) #[false, true, true, true, false, true, false, false, true, false, false, false, false] rfl rfl (by kernel_rfl) (fun _ _ _ h => h) (Or.inl ⟨by rfl, ?_⟩) ?_ ?_
              rotate_left
              · intro w'
                go_simp
                with_reducible rfl
              rotate_left
              · simp only [Act.put, List.setIfInBounds_toArray, List.set_cons_zero, List.set_cons_succ, i64_w, i32_w]
                rfl
              refine pure_ (i := 9) (N := some 36) (v := ?_) (a' := ?_) #[false, true, true, true, false, true, false, false, true, true, false, false, false] rfl rfl (by kernel_rfl) (fun _ _ _ h => h) (Or.inl ⟨by rfl, ?_⟩) ?_ ?_
              rotate_left
              · intro w'
                go_simp
                with_reducible rfl
              rotate_left
              · simp only [Act.put, List.setIfInBounds_toArray, List.set_cons_zero, List.set_cons_succ, i64_w, i32_w]
                rfl
              refine pure_ (i := 10) (N := some 37) (v := ?_) (a' := ?_) #[false, true, true, true, false, true, false, false, true, true, true, false, false] rfl rfl (by kernel_rfl) (fun _ _ _ h => h) (Or.inl ⟨by rfl, ?_⟩) ?_ ?_
              rotate_left
              · intro w'
                go_simp
                with_reducible rfl
              rotate_left
              · simp only [Act.put, List.setIfInBounds_toArray, List.set_cons_zero, List.set_cons_succ, i64_w, i32_w]
                rfl
              refine join_ (σ := Value × Value × Option Addr × Nat) 3 #[true, true, true, true, true, true, true, false, true, true, true, false, false] (fun s => [(27, s.1), (31, s.2.1), (33, .slice s.2.2.1 1 s.2.2.2)]) (fun s w' => Kd.R (Kd.int .i64) 3 w' wr.heap.size (fun _ => True) s.2.1 (O.take j) ∧ Kd.C (Kd.int .i64) w' s.2.2.1 1 [x] ∧ Below wr.heap.size wr w') ?tail (fun hjoin => ?_)
              case tail =>
                rintro ⟨v27, v31, A33, c33⟩ w5 ⟨ho31, hC33, hb5⟩
                refine norm_ (a' := ?_) ?_ ?_
                rotate_left
                · simp only [putAll, Act.put, List.setIfInBounds_toArray, List.set_cons_zero, List.set_cons_succ]
                  rfl
                refine one_ (i := 7) (N := some 34) #[true, true, true, true, true, true, true, true, true, true, true, false, false] rfl rfl (by kernel_rfl) (by decide) (fun K hK => ?_)
                refine Kd.R_append_rows_step (Kd.int .i64) (w0 := wr) wr.heap.size (by rfl) (.tmp 31) (.tmp 33) 23 3 (.int .i64 0) 8 rfl Try.underlying23 info3 rfl (by decide) (by omega) v31 (O.take j) [x] A33 1 c33 (fun _ => True) (fun _ => False) rfl rfl ho31 hC33 (fun _ _ h => h) (fun _ h => h.elim) (fun _ _ => trivial) hb5 (below_size hb5) (by simp; omega) ?_
                rintro v34 w6 ho34 hb6 hg34 -
                refine hK.out _ _ trivial (fun _ => ?_)
                clear hK K
                refine norm_ (a' := ?_) ?_ ?_
                rotate_left
                · show Act.put _ (some 34) _ = _
                  simp only [Act.put, List.setIfInBounds_toArray, List.set_cons_zero, List.set_cons_succ, i64_w, i32_w]
                  rfl
                refine one_ (i := 11) (N := some 38) #[true, true, true, true, true, true, true, true, true, true, true, true, false] rfl rfl (by kernel_rfl) (by decide) (fun K hK => ?_)
                refine Kd.R_append_rows_step (Kd.int .i64) (w0 := wr) wr.heap.size (by rfl) (.tmp 34) (.tmp 37) 23 3 (.int .i64 0) 8 rfl Try.underlying23 info3 rfl (by decide) (by omega) v34 (O.take j ++ [x]) (O.drop j) (if c = j then some ad2 else some (ad2.add j)) (O.length - j) (c - j) (fun _ => True) (fun _ => False) rfl rfl ho34 (HT2 _ hb6) (fun _ _ h => h) (fun _ h => h.elim) (fun _ _ => trivial) hb6 (below_size hb6) (by simp; omega) ?_
                rintro v38 w7 ho38 hb7 hg38 -
                obtain ⟨A9, c9, rfl⟩ := Kd.R_slice ho38
                refine hK.out _ _ trivial (fun _ => ?_)
                clear hK K
                refine norm_ (a' := ?_) ?_ ?_
                rotate_left
                · show Act.put _ (some 38) _ = _
                  simp only [Act.put, List.setIfInBounds_toArray, List.set_cons_zero, List.set_cons_succ, i64_w, i32_w]
                  rfl
                refine pure_ (i := 12) (N := some 3) (v := ?_) (a' := ?_) #[true, true, true, true, true, true, true, true, true, true, true, true, true] rfl rfl (by kernel_rfl) (fun _ _ _ h => h) (Or.inl ⟨by rfl, ?_⟩) ?_ ?_
                rotate_left
                · intro w'
                  go_simp
                  with_reducible rfl
                rotate_left
                · simp only [Act.put, List.setIfInBounds_toArray, List.set_cons_zero, List.set_cons_succ, i64_w, i32_w]
                  rfl
                refine done_ (by kernel_rfl) ?_
                have HEQ := Aside0.mk (show O.take j ++ [x] ++ O.drop j = risR (l1.take (i + 1)) by rw [HTK.out, risR_snoc, HO.out, HI9.out]; simp)
                have HO38 := Aside0.mk ho38
                have HB7 := Aside0.mk hb7
                clear ho31 hC33 hb5 ho34 hb6 hg34 ho38 hb7 hg38 HT1 HT2
                obtain ⟨L9, hL9⟩ : ∃ L9, (O.take j ++ [x] ++ O.drop j).length = L9 := ⟨_, rfl⟩
                rw [hL9]
                have HL9 := Aside0.mk hL9
                clear hL9
                try (generalize (if c = j then some ad2 else some (ad2.add j)) = A77)
                go_wp2
                go_roundg (G - 1)
                case measure => have := HI.out; omega
                case rel => exact ⟨i + 1, A9, c9, by go_num, (by rw [← HEQ.out, HL9.out]; have h6 := HL9.out; simp only [List.length_append, List.length_take, List.length_drop, List.length_cons, List.length_nil] at h6; rw [show j + (O.length - j + 1) = L9 by omega]), ⟨by have := HI.out; omega⟩, ⟨by rw [← HEQ.out]; exact Kd.R_lower HO38.out (below_size HB.out)⟩, ⟨HB.out.trans (HB7.out.mono (below_size HB.out))⟩⟩
              refine two_ (i := 0) (j := 6) (Ni := some 27) (Nj := some 33) #[true, true, true, true, false, true, false, false, true, true, true, false, false] #[false, true, true, true, false, true, true, false, true, true, true, false, false] rfl rfl rfl rfl (by kernel_rfl) (by decide) (by decide) (fun K hK => ?_) (fun K hK => ?_)
              · skip
                refine Kd.R_lit_step (Kd.int .i64) (w0 := wr) wr.heap.size 3 (by rfl) (N := 27) rfl (xs := []) (inner := []) (ok := fun _ => True) (okp := fun _ => False) ?hr (Reps.none _ _) (fun _ h => h.elim) trivial hbs (below_size hbs) (by simp) ?_
                case hr => first | (go_simp; done) | (go_simp; rfl)
                rintro v27 w1 ho27 hb27 hg27 -
                refine hK.out _ _ trivial (fun _ => ?_)
                clear hK K
                refine norm_ (a' := ?_) ?_ ?_
                rotate_left
                · show Act.put _ (some 27) _ = _
                  simp only [Act.put, List.setIfInBounds_toArray, List.set_cons_zero, List.set_cons_succ, i64_w, i32_w]
                  rfl
                refine two_ (i := 4) (j := 6) (Ni := some 31) (Nj := some 33) #[true, true, true, true, true, true, false, false, true, true, true, false, false] #[true, true, true, true, false, true, true, false, true, true, true, false, false] rfl rfl rfl rfl (by kernel_rfl) (by decide) (by decide) (fun K hK => ?_) (fun K hK => ?_)
                · skip
                  refine Kd.R_append_rows_step (Kd.int .i64) (w0 := wr) wr.heap.size (by rfl) (.tmp 27) (.tmp 30) 23 3 (.int .i64 0) 8 rfl Try.underlying23 info3 rfl (by decide) (by omega) v27 [] (O.take j) (some ad2) j c (fun _ => True) (fun _ => False) rfl rfl ho27 (HT1 _ hb27) (fun _ _ h => h) (fun _ h => h.elim) (fun _ _ => trivial) hb27 (below_size hb27) (by simp; omega) ?_
                  rintro v31 w2 ho31 hb31 hg31 -
                  refine hK.out _ _ trivial (fun _ => ?_)
                  clear hK K
                  refine norm_ (a' := ?_) ?_ ?_
                  rotate_left
                  · show Act.put _ (some 31) _ = _
                    simp only [Act.put, List.setIfInBounds_toArray, List.set_cons_zero, List.set_cons_succ, i64_w, i32_w]
                    rfl
                  refine one_ (i := 6) (N := some 33) #[true, true, true, true, true, true, true, false, true, true, true, false, false] rfl rfl (by kernel_rfl) (by decide) (fun K hK => ?_)
                  refine Kd.R_lit_step (Kd.int .i64) (w0 := wr) wr.heap.size 3 (by rfl) (N := 33) rfl (xs := [x]) (inner := [.int .i64 x]) (ok := fun _ => True) (okp := fun _ => False) ?hr (Reps.one rfl (Reps.none _ _)) (fun _ h => h.elim) trivial hb31 (below_size hb31) (by simp) ?_
                  case hr => first | (go_simp; done) | (go_simp; rfl)
                  rintro v33 w3 ho33 hb33 hg33 ⟨b33, e33, l33⟩
                  obtain ⟨A33, c33, rfl⟩ := Kd.R_slice ho33
                  refine hK.out _ _ trivial (fun _ => ?_)
                  clear hK K
                  refine norm_ (a' := ?_) ?_ ?_
                  rotate_left
                  · show Act.put _ (some 33) _ = _
                    simp only [Act.put, List.setIfInBounds_toArray, List.set_cons_zero, List.set_cons_succ, i64_w, i32_w]
                    rfl
                  have ho31 := Kd.R_step ho31 (fun k _ hk => hg33.block k hk (fun e => by cases e))
                  exact norm_ (by simp only [putAll, Act.put, List.setIfInBounds_toArray, List.set_cons_zero, List.set_cons_succ]; rfl) (hjoin (v27, v31, A33, c33) w3 ⟨ho31, (Kd.R_reads' ho33).2.2, hb33⟩)
                · skip
                  refine Kd.R_lit_step (Kd.int .i64) (w0 := wr) wr.heap.size 3 (by rfl) (N := 33) rfl (xs := [x]) (inner := [.int .i64 x]) (ok := fun _ => True) (okp := fun _ => False) ?hr (Reps.one rfl (Reps.none _ _)) (fun _ h => h.elim) trivial hb27 (below_size hb27) (by simp) ?_
                  case hr => first | (go_simp; done) | (go_simp; rfl)
                  rintro v33 w2 ho33 hb33 hg33 ⟨b33, e33, l33⟩
                  obtain ⟨A33, c33, rfl⟩ := Kd.R_slice ho33
                  refine hK.out _ _ trivial (fun _ => ?_)
                  clear hK K
                  refine norm_ (a' := ?_) ?_ ?_
                  rotate_left
                  · show Act.put _ (some 33) _ = _
                    simp only [Act.put, List.setIfInBounds_toArray, List.set_cons_zero, List.set_cons_succ, i64_w, i32_w]
                    rfl
                  have l27 := Kd.R_lt ho27
                  have ho27 := Kd.R_step ho27 (fun k _ hk => hg33.block k hk (fun e => by cases e))
                  refine one_ (i := 4) (N := some 31) #[true, true, true, true, true, true, true, false, true, true, true, false, false] rfl rfl (by kernel_rfl) (by decide) (fun K hK => ?_)
                  refine Kd.R_append_rows_step (Kd.int .i64) (w0 := wr) wr.heap.size (by rfl) (.tmp 27) (.tmp 30) 23 3 (.int .i64 0) 8 rfl Try.underlying23 info3 rfl (by decide) (by omega) v27 [] (O.take j) (some ad2) j c (fun _ => True) (fun _ => False) rfl rfl ho27 (HT1 _ hb33) (fun _ _ h => h) (fun _ h => h.elim) (fun _ _ => trivial) hb33 (below_size hb33) (by simp; omega) ?_
                  rintro v31 w3 ho31 hb31 hg31 -
                  refine hK.out _ _ trivial (fun _ => ?_)
                  clear hK K
                  refine norm_ (a' := ?_) ?_ ?_
                  rotate_left
                  · show Act.put _ (some 31) _ = _
                    simp only [Act.put, List.setIfInBounds_toArray, List.set_cons_zero, List.set_cons_succ, i64_w, i32_w]
                    rfl
                  have ho33 := Kd.R_step (R_only9 ho33 (ok' := fun k => k = b33) (fun k hk => Option.some.inj (hk.symm.trans e33))) (fun k hk hk2 => hg31.block k hk2 (fun e => by have := l27 k e.symm; omega))
                  exact norm_ (by simp only [putAll, Act.put, List.setIfInBounds_toArray, List.set_cons_zero, List.set_cons_succ]; rfl) (hjoin (v27, v31, A33, c33) w3 ⟨ho31, (Kd.R_reads' ho33).2.2, hb31⟩)
              · skip
                refine Kd.R_lit_step (Kd.int .i64) (w0 := wr) wr.heap.size 3 (by rfl) (N := 33) rfl (xs := [x]) (inner := [.int .i64 x]) (ok := fun _ => True) (okp := fun _ => False) ?hr (Reps.one rfl (Reps.none _ _)) (fun _ h => h.elim) trivial hbs (below_size hbs) (by simp) ?_
                case hr => first | (go_simp; done) | (go_simp; rfl)
                rintro v33 w1 ho33 hb33 hg33 ⟨b33, e33, l33⟩
                obtain ⟨A33, c33, rfl⟩ := Kd.R_slice ho33
                refine hK.out _ _ trivial (fun _ => ?_)
                clear hK K
                refine norm_ (a' := ?_) ?_ ?_
                rotate_left
                · show Act.put _ (some 33) _ = _
                  simp only [Act.put, List.setIfInBounds_toArray, List.set_cons_zero, List.set_cons_succ, i64_w, i32_w]
                  rfl
                have l33 := Kd.R_lt ho33
                refine one_ (i := 0) (N := some 27) #[true, true, true, true, false, true, true, false, true, true, true, false, false] rfl rfl (by kernel_rfl) (by decide) (fun K hK => ?_)
                refine Kd.R_lit_step (Kd.int .i64) (w0 := wr) wr.heap.size 3 (by rfl) (N := 27) rfl (xs := []) (inner := []) (ok := fun _ => True) (okp := fun _ => False) ?hr (Reps.none _ _) (fun _ h => h.elim) trivial hb33 (below_size hb33) (by simp) ?_
                case hr => first | (go_simp; done) | (go_simp; rfl)
                rintro v27 w2 ho27 hb27 hg27 ⟨b27, e27, l27⟩
                refine hK.out _ _ trivial (fun _ => ?_)
                clear hK K
                refine norm_ (a' := ?_) ?_ ?_
                rotate_left
                · show Act.put _ (some 27) _ = _
                  simp only [Act.put, List.setIfInBounds_toArray, List.set_cons_zero, List.set_cons_succ, i64_w, i32_w]
                  rfl
                have ho33 := Kd.R_step ho33 (fun k _ hk => hg27.block k hk (fun e => by cases e))
                refine one_ (i := 4) (N := some 31) #[true, true, true, true, true, true, true, false, true, true, true, false, false] rfl rfl (by kernel_rfl) (by decide) (fun K hK => ?_)
                refine Kd.R_append_rows_step (Kd.int .i64) (w0 := wr) wr.heap.size (by rfl) (.tmp 27) (.tmp 30) 23 3 (.int .i64 0) 8 rfl Try.underlying23 info3 rfl (by decide) (by omega) v27 [] (O.take j) (some ad2) j c (fun _ => True) (fun _ => False) rfl rfl ho27 (HT1 _ hb27) (fun _ _ h => h) (fun _ h => h.elim) (fun _ _ => trivial) hb27 (below_size hb27) (by simp; omega) ?_
                rintro v31 w3 ho31 hb31 hg31 -
                refine hK.out _ _ trivial (fun _ => ?_)
                clear hK K
                refine norm_ (a' := ?_) ?_ ?_
                rotate_left
                · show Act.put _ (some 31) _ = _
                  simp only [Act.put, List.setIfInBounds_toArray, List.set_cons_zero, List.set_cons_succ, i64_w, i32_w]
                  rfl
                have ho33 := Kd.R_step (R_only9 ho33 (ok' := fun k => k = b33) (fun k hk => Option.some.inj (hk.symm.trans e33))) (fun k hk hk2 => hg31.block k hk2 (fun e => by have := l33 b33 e33; rw [e27] at e; injection e with e; omega))
                exact norm_ (by simp only [putAll, Act.put, List.setIfInBounds_toArray, List.set_cons_zero, List.set_cons_succ]; rfl) (hjoin (v27, v31, A33, c33) w3 ⟨ho31, (Kd.R_reads' ho33).2.2, hb31⟩)
      · have hil : i = l1.length := by have := HI.out; omega
        have HIL := Aside0.mk hil
        clear hil
        have hltz : ¬ (i : Int) < (l1.length : Int) := by omega
        have HEQ := Aside0.mk (show risR (l1.take i) = r by rw [HIL.out, List.take_length]; exact HRES.out)
        go_wp2
        go_ret
        refine ⟨_, rfl, ?_, HB.out⟩
        have h1 := HR.out
        rw [HEQ.out] at h1
        rw [HEQ.out]
        exact h1
  · rw [if_neg hc] at h; cases h

end Go.Proofs.Ytfjafmgaahfhgaa.P
