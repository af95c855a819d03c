/- A part of a proof that a law's Go function returns true for every input, laid by this session's program mp.py (which drives the kit's print). Conditions: as each theorem states them. -/
import Derived.ArgAppend
import Derived.StillTailTactics
import Derived.Laws.EntriesVeiled
import Derived.RangeFuncNested
import Derived.RangeFuncCalls
import Derived.Test.YtknchioabngbiaaCRowsKnown1
namespace Go.Proofs.Ytknchioabngbiaa.P
/-! All partners of a rhythm by filling the first free beat: what such a search comes to. Plain Lean. -/
theorem cnt_le_of {p q : Nat → Bool} (n : Nat) (h : ∀ i, i < n → p i = true → q i = true) : cnt n p ≤ cnt n q := by
  rw [cnt_eq, cnt_eq]
  refine List.countP_mono_left (fun x hx hp => ?_)
  exact h x (List.mem_range.1 hx) hp
theorem cnt_lt_of {p q : Nat → Bool} : ∀ (n : Nat), (∀ i, i < n → p i = true → q i = true) → ∀ j, j < n → p j = false → q j = true → cnt n p < cnt n q
  | 0, _, j, hj, _, _ => by omega
  | n + 1, h, j, hj, h1, h2 => by
    rw [cnt_succ, cnt_succ]
    by_cases e : j = n
    · subst e
      have := cnt_le_of (p := p) (q := q) j (fun i hi => h i (by omega))
      rw [h1, h2]; simp; omega
    · have := cnt_lt_of n (fun i hi => h i (by omega)) j (by omega) h1 h2
      have h3 := h n (by omega)
      cases hp : p n with
      | false => simp; omega
      | true => rw [h3 hp]; simp; omega
/-- two rhythms fill the circle: each beat is met, by one entry -/
def Fills (n a c : Nat) : Prop := (∀ x, x < n → ∃ y, y < n ∧ c.testBit y = true ∧ (moveN n a y).testBit x = true) ∧
  (∀ x, x < n → ∀ y, y < n → ∀ z, z < n → c.testBit y = true → c.testBit z = true → (moveN n a y).testBit x = true → (moveN n a z).testBit x = true → y = z)
theorem tiled_fills {n a c : Nat} : Tiled n a c ↔ Fills n a c := by
  constructor
  · intro h
    refine ⟨fun x hx => ?_, fun x hx y hy z hz h1 h2 h3 h4 => ?_⟩
    · obtain ⟨y, h1, h2, h3, _⟩ := tiled_enter h hx
      exact ⟨y, h1, h2, h3⟩
    · obtain ⟨w, _, _, _, _, hu⟩ := tiled_enter h hx
      rw [hu y hy h1 h3, hu z hz h2 h4]
  · rintro ⟨h1, h2⟩ x hx
    obtain ⟨y, hy, hc, hm⟩ := h1 x hx
    have h3 : 1 ≤ cv n a c n x := cnt_pos (p := fun y => c.testBit y && (moveN n a y).testBit x) hy (by simp [hc, hm])
    have h4 : cv n a c n x ≤ 1 := by
      have : cv n a c n x ≤ cnt n (fun i => decide (i = y)) := cnt_le_of n (fun i hi hp => by
        simp only [Bool.and_eq_true] at hp
        simpa using h2 x hx i hi y hy hp.1 hc hp.2 hm)
      have h5 : ∀ m, cnt m (fun i => decide (i = y)) ≤ 1 := by
        intro m
        rcases Nat.lt_or_ge (cnt m (fun i => decide (i = y))) 2 with h | h
        · omega
        · exfalso
          induction m with
          | zero => rw [cnt_zero] at h; omega
          | succ m ih =>
            rw [cnt_succ] at h
            by_cases e : m = y
            · subst e
              have : cnt m (fun i => decide (i = m)) = 0 := by
                have e1 := cnt_congr (n := m) (p := fun i => decide (i = m)) (q := fun _ => false) (fun i hi => by simp; omega)
                rw [e1, cnt_eq]; simp
              simp at h; omega
            · simp [e] at h
              exact ih h
      have := h5 n
      omega
    omega
/-- the first beat that is free -/
def lowFree (F : Nat) : Nat → Nat → Nat
  | 0, i => i
  | d + 1, i => if F.testBit i then lowFree F d (i + 1) else i
theorem lowFree_spec {F : Nat} : ∀ (d i : Nat), (∀ j, j < i → F.testBit j = true) → (∃ j, i ≤ j ∧ j < i + d ∧ F.testBit j = false) →
    lowFree F d i < i + d ∧ F.testBit (lowFree F d i) = false ∧ ∀ j, j < lowFree F d i → F.testBit j = true
  | 0, i, _, h => by obtain ⟨j, h1, h2, _⟩ := h; omega
  | d + 1, i, h0, h => by
    simp only [lowFree]
    cases hb : F.testBit i with
    | false => simp only [Bool.false_eq_true, if_false]; exact ⟨by omega, hb, h0⟩
    | true =>
      simp only [if_true]
      have := lowFree_spec d (i + 1) (fun j hj => by
        by_cases e : j = i
        · subst e; exact hb
        · exact h0 j (by omega)) (by
        obtain ⟨j, h1, h2, h3⟩ := h
        refine ⟨j, ?_, by omega, h3⟩
        by_cases e : j = i
        · subst e; rw [hb] at h3; cases h3
        · omega)
      exact ⟨by omega, this.2⟩
def freeAt (n F : Nat) : Nat := lowFree F n 0
theorem freeAt_spec {n F : Nat} (hF : F < 2 ^ n) (h : F ≠ 2 ^ n - 1) : freeAt n F < n ∧ F.testBit (freeAt n F) = false ∧ ∀ j, j < freeAt n F → F.testBit j = true := by
  have := lowFree_spec (F := F) n 0 (fun j hj => by omega) (by
    rcases Classical.em (∃ j, j < n ∧ F.testBit j = false) with ⟨j, h1, h2⟩ | h'
    · exact ⟨j, by omega, by omega, h2⟩
    · exfalso
      refine h ((fillsAll_iff hF).2 (fun x hx => ?_))
      cases hb : F.testBit x with
      | true => rfl
      | false => exact absurd ⟨x, hx, hb⟩ h')
  unfold freeAt
  exact ⟨by omega, this.2⟩
def vis (n a : Nat) (st : Nat → Nat → Option Nat) : Nat → Nat → Nat → List Nat
  | 0, _, _ => []
  | d + 1, b, F => if F = 2 ^ n - 1 then [b] else (List.range n).flatMap fun x =>
      match st (freeAt n F) x with
      | some k => if moveN n a k &&& F = 0 then vis n a st d (b ||| 2 ^ k) (F ||| moveN n a k) else []
      | none => []
/-- what the entries chosen so far fill -/
def Part (n a b F : Nat) : Prop := b < 2 ^ n ∧ F < 2 ^ n ∧ (∀ x, x < n → (F.testBit x = true ↔ ∃ y, y < n ∧ b.testBit y = true ∧ (moveN n a y).testBit x = true)) ∧
  (∀ x, x < n → ∀ y, y < n → ∀ z, z < n → b.testBit y = true → b.testBit z = true → (moveN n a y).testBit x = true → (moveN n a z).testBit x = true → y = z)
/-- the ways in which a free beat can be filled, each once -/
def StepOk (n a : Nat) (st : Nat → Nat → Option Nat) : Prop := (∀ f x k, f < n → x < n → st f x = some k → k < n ∧ (moveN n a k).testBit f = true) ∧
  (∀ f k, f < n → k < n → (moveN n a k).testBit f = true → ∃ x, x < n ∧ st f x = some k) ∧ (∀ f x y k, f < n → x < n → y < n → st f x = some k → st f y = some k → x = y)
theorem moveN_self {n a y : Nat} (ha : a < 2 ^ n) (h0 : a.testBit 0 = true) (hy : y < n) : (moveN n a y).testBit y = true := by
  rw [testBit_moveN ha hy hy]
  have : (y + (n - y)) % n = 0 := by rw [show y + (n - y) = n by omega, Nat.mod_self]
  rw [this]; exact h0
theorem Part.add {n a b F k : Nat} (h : Part n a b F) (hk : k < n) (hm : moveN n a k &&& F = 0) : Part n a (b ||| 2 ^ k) (F ||| moveN n a k) := by
  obtain ⟨hb, hF, h1, h2⟩ := h
  have hp : 2 ^ k < 2 ^ n := Nat.pow_lt_pow_right (by omega) hk
  have hno : ∀ x, x < n → (moveN n a k).testBit x = true → F.testBit x = false := by
    intro x hx hx1
    have : (moveN n a k &&& F).testBit x = false := by rw [hm]; simp
    rw [Nat.testBit_and, hx1, Bool.true_and] at this
    exact this
  refine ⟨Nat.or_lt_two_pow hb hp, Nat.or_lt_two_pow hF (moveN_lt n a k), fun x hx => ?_, fun x hx y hy z hz => ?_⟩
  · rw [Nat.testBit_or, Bool.or_eq_true, h1 x hx]
    constructor
    · rintro (⟨y, h3, h4, h5⟩ | h3)
      · exact ⟨y, h3, by rw [testBit_or_two_pow, h4]; rfl, h5⟩
      · exact ⟨k, hk, by rw [testBit_or_two_pow]; simp, h3⟩
    · rintro ⟨y, h3, h4, h5⟩
      rw [testBit_or_two_pow, Bool.or_eq_true, decide_eq_true_eq] at h4
      rcases h4 with h4 | rfl
      · exact .inl ⟨y, h3, h4, h5⟩
      · exact .inr h5
  · rw [testBit_or_two_pow, testBit_or_two_pow, Bool.or_eq_true, Bool.or_eq_true, decide_eq_true_eq, decide_eq_true_eq]
    rintro (h3 | rfl) (h4 | rfl) h5 h6
    · exact h2 x hx y hy z hz h3 h4 h5 h6
    · exfalso
      have := hno x hx h6
      rw [(h1 x hx).2 ⟨y, hy, h3, h5⟩] at this; cases this
    · exfalso
      have := hno x hx h5
      rw [(h1 x hx).2 ⟨z, hz, h4, h6⟩] at this; cases this
    · rfl
theorem vis_spec {n a : Nat} {st : Nat → Nat → Option Nat} (ha : a < 2 ^ n) (h0 : a.testBit 0 = true) (hst : StepOk n a st) : ∀ (d b F : Nat), Part n a b F → cnt n (fun i => !F.testBit i) < d →
    (vis n a st d b F).Nodup ∧ ∀ c, c ∈ vis n a st d b F ↔ (c < 2 ^ n ∧ Fills n a c ∧ ∀ y, b.testBit y = true → c.testBit y = true)
  | 0, b, F, _, hd => by omega
  | d + 1, b, F, hP, hd => by
    have hP' := hP
    obtain ⟨hb, hF, h1, h2⟩ := hP
    simp only [vis]
    by_cases e : F = 2 ^ n - 1
    · rw [if_pos e]
      have hall := (fillsAll_iff hF).1 e
      refine ⟨by simp, fun c => ?_⟩
      rw [List.mem_singleton]
      constructor
      · rintro rfl
        exact ⟨hb, ⟨fun x hx => (h1 x hx).1 (hall x hx), h2⟩, fun _ h => h⟩
      · rintro ⟨hc, ⟨h3, h4⟩, h5⟩
        refine bits_ext hc hb (fun i hi => ?_)
        cases hbi : b.testBit i with
        | true => exact h5 i hbi
        | false =>
          cases hci : c.testBit i with
          | false => rfl
          | true =>
            exfalso
            obtain ⟨z, hz, hbz, hmz⟩ := (h1 i hi).1 (hall i hi)
            have := h4 i hi i hi z hz hci (h5 z hbz) (moveN_self ha h0 hi) hmz
            subst this
            rw [hbi] at hbz; cases hbz
    · rw [if_neg e]
      obtain ⟨hf, hf0, _⟩ := freeAt_spec hF e
      obtain ⟨s1, s2, s3⟩ := hst
      have ih : ∀ k, k < n → (moveN n a k).testBit (freeAt n F) = true → moveN n a k &&& F = 0 → _ := fun k hk hkf hm =>
        vis_spec ha h0 ⟨s1, s2, s3⟩ d (b ||| 2 ^ k) (F ||| moveN n a k) (hP'.add hk hm) (by
          have := cnt_lt_of (p := fun i => !(F ||| moveN n a k).testBit i) (q := fun i => !F.testBit i) n (fun i _ hp => by
            rw [Nat.testBit_or] at hp; cases hq : F.testBit i <;> simp_all) (freeAt n F) hf (by rw [Nat.testBit_or, hkf]; simp) (by rw [hf0]; rfl)
          omega)
      have hmem : ∀ x c, x < n → (c ∈ (match st (freeAt n F) x with
          | some k => if moveN n a k &&& F = 0 then vis n a st d (b ||| 2 ^ k) (F ||| moveN n a k) else []
          | none => []) ↔ ∃ k, st (freeAt n F) x = some k ∧ moveN n a k &&& F = 0 ∧ c < 2 ^ n ∧ Fills n a c ∧ ∀ y, (b ||| 2 ^ k).testBit y = true → c.testBit y = true) := by
        intro x c hx
        cases hs : st (freeAt n F) x with
        | none => simp
        | some k =>
          obtain ⟨hk, hkf⟩ := s1 _ _ _ hf hx hs
          by_cases hm : moveN n a k &&& F = 0
          · simp only [hm, if_true]
            rw [(ih k hk hkf hm).2 c]
            constructor
            · rintro ⟨h3, h4, h5⟩; exact ⟨k, rfl, hm, h3, h4, h5⟩
            · rintro ⟨k', e', _, h3, h4, h5⟩; cases e'; exact ⟨h3, h4, h5⟩
          · simp only [hm, if_false]
            constructor
            · intro h; cases h
            · rintro ⟨k', e', hm', _⟩; cases e'; exact absurd hm' hm
      constructor
      · refine List.pairwise_flatMap.2 ⟨fun x hx => ?_, ?_⟩
        · rw [List.mem_range] at hx
          cases hs : st (freeAt n F) x with
          | none => exact List.Pairwise.nil
          | some k =>
            obtain ⟨hk, hkf⟩ := s1 _ _ _ hf hx hs
            by_cases hm : moveN n a k &&& F = 0
            · simp only [hm, if_true]; exact (ih k hk hkf hm).1
            · simp only [hm, if_false]; exact List.Pairwise.nil
        · refine List.Pairwise.imp_of_mem (R := fun x y => x < y) ?_ List.pairwise_lt_range
          intro x y hx hy hxy c hc c' hc' hcc
          rw [List.mem_range] at hx hy
          subst hcc
          obtain ⟨k, hs, _, hcl, hfc, hsub⟩ := (hmem x c hx).1 hc
          obtain ⟨k', hs', _, _, _, hsub'⟩ := (hmem y c hy).1 hc'
          obtain ⟨hk, hkf⟩ := s1 _ _ _ hf hx hs
          obtain ⟨hk', hkf'⟩ := s1 _ _ _ hf hy hs'
          have e1 := hsub k (by rw [testBit_or_two_pow]; simp)
          have e2 := hsub' k' (by rw [testBit_or_two_pow]; simp)
          have := hfc.2 _ hf k hk k' hk' e1 e2 hkf hkf'
          subst this
          have := s3 _ _ _ _ hf hx hy hs hs'
          omega
      · intro c
        rw [List.mem_flatMap]
        constructor
        · rintro ⟨x, hx, hc⟩
          rw [List.mem_range] at hx
          obtain ⟨k, _, _, h3, h4, h5⟩ := (hmem x c hx).1 hc
          exact ⟨h3, h4, fun y hy => h5 y (by rw [testBit_or_two_pow, hy]; rfl)⟩
        · rintro ⟨hc, hfc, hsub⟩
          obtain ⟨k, hk, hck, hkf⟩ := hfc.1 _ hf
          obtain ⟨x, hx, hs⟩ := s2 _ k hf hk hkf
          refine ⟨x, List.mem_range.2 hx, (hmem x c hx).2 ⟨k, hs, ?_, hc, hfc, fun y hy => ?_⟩⟩
          · refine bits_ext (n := n) (Nat.lt_of_le_of_lt Nat.and_le_left (moveN_lt n a k)) (Nat.two_pow_pos n) (fun i hi => ?_)
            rw [Nat.zero_testBit, Nat.testBit_and]
            cases hi1 : (moveN n a k).testBit i with
            | false => rfl
            | true =>
              cases hi2 : F.testBit i with
              | false => rfl
              | true =>
                exfalso
                obtain ⟨z, hz, hbz, hmz⟩ := (h1 i hi).1 hi2
                have := hfc.2 i hi k hk z hz hck (hsub z hbz) hi1 hmz
                subst this
                rw [(h1 _ hf).2 ⟨k, hk, hbz, hkf⟩] at hf0; cases hf0
          · rw [testBit_or_two_pow, Bool.or_eq_true, decide_eq_true_eq] at hy
            rcases hy with hy | rfl
            · exact hsub y hy
            · exact hck
theorem moveN_zero {n a : Nat} (hn : 1 ≤ n) (ha : a < 2 ^ n) : moveN n a 0 = a :=
  bits_ext (moveN_lt n a 0) ha (fun i hi => by rw [testBit_moveN ha (by omega) hi]; congr 1; rw [Nat.sub_zero, Nat.add_mod_right, Nat.mod_eq_of_lt hi])
theorem one_bit (y : Nat) : (1 : Nat).testBit y = decide (y = 0) := by
  cases y with
  | zero => rfl
  | succ y => rw [Nat.testBit_succ]; simp
theorem Part.start {n a : Nat} (hn : 1 ≤ n) (ha : a < 2 ^ n) : Part n a 1 a := by
  have h1 := one_bit
  refine ⟨Nat.lt_of_lt_of_le (by decide : 1 < 2 ^ 1) (Nat.pow_le_pow_right (by omega) hn), ha, fun x hx => ?_, fun x hx y hy z hz h2 h3 _ _ => ?_⟩
  · constructor
    · intro h; exact ⟨0, by omega, by rw [h1]; rfl, by rw [moveN_zero hn ha]; exact h⟩
    · rintro ⟨y, hy, h2, h3⟩
      rw [h1, decide_eq_true_eq] at h2
      subst h2
      rw [moveN_zero hn ha] at h3; exact h3
  · rw [h1, decide_eq_true_eq] at h2 h3; omega
/-- the way of the program: the beats of a, in order; the way of the document: the entries, in order -/
def stA (n a f x : Nat) : Option Nat := if a.testBit x then some ((f + (n - x)) % n) else none
def stR (n a f y : Nat) : Option Nat := if (moveN n a y).testBit f then some y else none
theorem sub_mod_two {n f x : Nat} (hf : f < n) (hx : x < n) : (f + (n - (f + (n - x)) % n)) % n = x := by
  rcases Nat.lt_or_ge f x with h | h
  · rw [Nat.mod_eq_of_lt (show f + (n - x) < n by omega), show f + (n - (f + (n - x))) = x by omega, Nat.mod_eq_of_lt hx]
  · have e : (f + (n - x)) % n = f - x := by
      rw [show f + (n - x) = (f - x) + n by omega, Nat.add_mod_right, Nat.mod_eq_of_lt (by omega)]
    rw [e]
    rw [show f + (n - (f - x)) = x + n by omega, Nat.add_mod_right, Nat.mod_eq_of_lt hx]
theorem stepOk_A {n a : Nat} (ha : a < 2 ^ n) : StepOk n a (stA n a) := by
  refine ⟨fun f x k hf hx h => ?_, fun f k hf hk h => ?_, fun f x y k hf hx hy h h' => ?_⟩
  · unfold stA at h
    split at h
    · rename_i hb
      cases h
      have hk : (f + (n - x)) % n < n := Nat.mod_lt _ (by omega)
      refine ⟨hk, ?_⟩
      rw [testBit_moveN ha hk hf, sub_mod_two hf hx]; exact hb
    · cases h
  · rw [testBit_moveN ha hk hf] at h
    refine ⟨(f + (n - k)) % n, Nat.mod_lt _ (by omega), ?_⟩
    unfold stA
    rw [if_pos h, sub_mod_two hf hk]
  · unfold stA at h h'
    split at h
    · split at h'
      · cases h; injection h' with h'
        have := sub_mod_two hf hx; have := sub_mod_two hf hy; rw [h'] at this; omega
      · cases h'
    · cases h
theorem stepOk_R {n a : Nat} : StepOk n a (stR n a) := by
  refine ⟨fun f x k hf hx h => ?_, fun f k hf hk h => ⟨k, hk, by unfold stR; rw [if_pos h]⟩, fun f x y k hf hx hy h h' => ?_⟩
  · unfold stR at h
    split at h
    · rename_i hb; cases h; exact ⟨hx, hb⟩
    · cases h
  · unfold stR at h h'
    split at h
    · split at h'
      · cases h; injection h' with h'; exact h'.symm
      · cases h'
    · cases h
theorem start_cnt {n a : Nat} : cnt n (fun i => !a.testBit i) < n + 1 := by have := cnt_le n (fun i => !a.testBit i); omega
theorem partners_spec {n a : Nat} {st : Nat → Nat → Option Nat} (hn : 1 ≤ n) (ha : a < 2 ^ n) (h0 : a.testBit 0 = true) (hst : StepOk n a st) :
    (vis n a st (n + 1) 1 a).Nodup ∧ ∀ c, c ∈ vis n a st (n + 1) 1 a ↔ (c < 2 ^ n ∧ Tiled n a c ∧ c.testBit 0 = true) := by
  obtain ⟨h1, h2⟩ := vis_spec ha h0 hst (n + 1) 1 a (Part.start hn ha) start_cnt
  refine ⟨h1, fun c => ?_⟩
  rw [h2 c, tiled_fills]
  constructor
  · rintro ⟨h3, h4, h5⟩; exact ⟨h3, h4, h5 0 rfl⟩
  · rintro ⟨h3, h4, h5⟩
    refine ⟨h3, h4, fun y hy => ?_⟩
    rw [one_bit, decide_eq_true_eq] at hy
    subst hy; exact h5
theorem part_full {n a b F : Nat} (h : Part n a b F) (e : F = 2 ^ n - 1) : Tiled n a b := by
  obtain ⟨_, _, h3, h4⟩ := h
  refine tiled_fills.2 ⟨fun x hx => (h3 x hx).1 ?_, h4⟩
  rw [e, Nat.testBit_two_pow_sub_one]; simp [hx]
/-- lists without repetition with the same members are equally long -/
theorem nodup_length_le : ∀ (l l' : List Nat), l.Nodup → (∀ c, c ∈ l → c ∈ l') → l.length ≤ l'.length
  | [], _, _, _ => Nat.zero_le _
  | c :: l, l', hd, hs => by
    have h1 := hs c (by simp)
    have hd' := List.nodup_cons.1 hd
    have := nodup_length_le l (l'.erase c) hd'.2 (fun x hx => by
      have hx' := hs x (by simp [hx])
      have hne : x ≠ c := fun e => hd'.1 (e ▸ hx)
      exact (List.mem_erase_of_ne hne).2 hx')
    rw [List.length_erase_of_mem h1] at this
    have hp : 0 < l'.length := List.length_pos_of_mem h1
    simp only [List.length_cons]; omega
end Go.Proofs.Ytknchioabngbiaa.P
namespace Go.Proofs.Ytknchioabngbiaa.P
open Go.RowKit Go.Proofs.YtknchioabngbiaaW.PrintWords Go.Proofs.YtknchioabngbiaaW.PrintLast Go.Proofs.YtknchioabngbiaaW.PrintMore
attribute [local go_sem] max2_int min2_int max_two min_two max_three min_three max_four min_four   -- for this text's walks alone
set_option linter.unusedVariables false
set_option linter.unusedSimpArgs false

/-! ### sackbutref05_Part: function 35 -/
def sackbutref05_Part.l0 : Nat → Int → Int → List Int → Int → Int → Option (Bool)
  | 0, _, _, _, _, _ => none
  | k + 1, x1, x5, x8, x9, x10 => if x10 < x9 then (if 0 ≤ x10 then (if x10 < (x8.length : Int) then (if (rd x8 x10) < 0 then (some false) else (if (rd x8 x10) ≥ x1 then (some false) else (if 0 ≤ (rd x8 x10) then (if (Go.bits .and .i64 (shr .i64 x5 (rd x8 x10)) 1) = 1 then (some false) else (sackbutref05_Part.l0 k x1 (Go.bits .or .i64 x5 (shl .i64 1 (rd x8 x10))) x8 x9 (wrap64 (x10 + 1)))) else (none)))) else (none)) else (none)) else (some true)
def sackbutref05_Part.f (k : Nat) (l0 : List Int) (a1 : Int) : Option (Bool) := sackbutref05_Part.l0 k a1 0 l0 (l0.length : Int) 0
theorem sackbutref05_Part.mono_l : ∀ k, (∀ y0 y1 y2 y3 y4, LeO (sackbutref05_Part.l0 k y0 y1 y2 y3 y4) (sackbutref05_Part.l0 (k + 1) y0 y1 y2 y3 y4))
  | 0 => fun _ _ _ _ _ r h => by simp [sackbutref05_Part.l0] at h
  | k + 1 => by
    have ih0 := sackbutref05_Part.mono_l k
    · intro y0 y1 y2 y3 y4
      unfold sackbutref05_Part.l0
      repeat' first
      | (with_reducible exact ih0 _ _ _ _ _)
      | (with_reducible exact LeO.refl _)
      | (with_reducible exact LeO.none _)
      | (with_reducible refine LeO.ite ?_ ?_)
      | (with_reducible refine LeO.bind ?_ (fun _ => ?_))
      | exact ih0 _ _ _ _ _
      | exact LeO.none _
      | refine LeO.ite ?_ ?_
      | refine LeO.bind ?_ (fun _ => ?_)
theorem sackbutref05_Part.mono : ∀ a0 a1 k, LeO (sackbutref05_Part.f k a0 a1) (sackbutref05_Part.f (k + 1) a0 a1) := by
  intro a0 a1 k
  have ih0 := sackbutref05_Part.mono_l k
  unfold sackbutref05_Part.f
  repeat' first
      | (with_reducible exact ih0 _ _ _ _ _)
      | (with_reducible exact LeO.refl _)
      | (with_reducible exact LeO.none _)
      | (with_reducible refine LeO.ite ?_ ?_)
      | (with_reducible refine LeO.bind ?_ (fun _ => ?_))
      | exact ih0 _ _ _ _ _
      | exact LeO.none _
      | refine LeO.ite ?_ ?_
      | refine LeO.bind ?_ (fun _ => ?_)
set_option maxHeartbeats 8000000 in
set_option maxRecDepth 100000 in
theorem sackbutref05_Part.calls (k : Nat) (A0 : Option Addr) (c0 : Nat) (l0 : List Int) (a1 : Int) (r : Bool) (w : World) (hr0 : Kd.C (Kd.int .i64) w A0 l0.length l0) (hc0 : l0.length ≤ c0) (h : sackbutref05_Part.f k l0 a1 = some r) :
    Calls Try.prog 35 #[.slice A0 l0.length c0, .int .i64 a1] w fun e w' => e = .returned (.bool r) ∧ Drawn0 w w' := by
  have HR0 := Aside0.mk hr0
  have HC0 := Aside0.mk hc0
  clear hr0 hc0
  have H : (sackbutref05_Part.l0 k a1 0 l0 (l0.length : Int) 0) = some r := h
  clear h
  have H' := Aside0.mk H
  clear H
  go_enter Try.func35, Try.ntmps35
  go_wp2
  go_loopg [5, 10] k (fun kq v5 v10 w' => ∃ (x5_1 : Int) (x10_1 : Int), v5 = .int .i64 x5_1 ∧ v10 = .int .i64 x10_1 ∧ Aside0 (sackbutref05_Part.l0 kq a1 x5_1 l0 (l0.length : Int) x10_1 = some r) ∧ Aside0 (kq ≤ k) ∧ Drawn0 w w')
  case atStart => exact ⟨(0), (0), (by first | rfl | (simp; done) | (simp [*]; done)), (by first | rfl | (simp; done) | (simp [*]; done)), H', ⟨Nat.le_refl _⟩, by repeat (first | exact Drawn0.refl _ | apply Drawn0.step)⟩
  case round =>
    clear H'
    try clear p2
    obtain ⟨x5_1, x10_1, rfl, rfl, HA, HK1, ⟨m1, rfl⟩⟩ := hrel
    cases gk with
    | zero => exact absurd HA.out (by simp [sackbutref05_Part.l0])
    | succ k1 =>
      have H := HA.out
      clear HA
      simp only [sackbutref05_Part.l0] at H
      by_cases c3 : x10_1 < (l0.length : Int)
      · rw [if_pos c3] at H
        have c3b0 : decide (x10_1 < (l0.length : Int)) = true := decide_eq_true c3
        clear c3
        by_cases c4 : 0 ≤ x10_1
        · rw [if_pos c4] at H
          have c4b0 : decide (0 ≤ x10_1) = true := decide_eq_true c4
          clear c4
          by_cases c5 : x10_1 < (l0.length : Int)
          · rw [if_pos c5] at H
            have c5b0 : decide (x10_1 < (l0.length : Int)) = true := decide_eq_true c5
            clear c5
            by_cases c6 : (rd l0 x10_1) < 0
            · rw [if_pos c6] at H
              have c6b0 : decide ((rd l0 x10_1) < 0) = true := decide_eq_true c6
              clear c6
              obtain rfl := Option.some.inj H
              have p1001 : 0 ≤ (x10_1 : Int) := of_decide_eq_true (by first | (with_reducible assumption) | assumption)
              have q1001 : x10_1 < (l0.length : Int) := of_decide_eq_true (by first | (with_reducible assumption) | assumption)
              obtain ⟨ad1001, e1001, hx1001_0⟩ := Kd.at_int HR0.out x10_1 p1001 q1001
              cases e1001
              replace p1001 := eq_true p1001
              replace q1001 := eq_true q1001
              go_wp2
              go_ret
              exact ⟨by first | rfl | (simp; done) | (simp [*]; done), by repeat (first | exact Drawn0.refl _ | apply Drawn0.step)⟩
            · rw [if_neg c6] at H
              have c6b0 : decide ((rd l0 x10_1) < 0) = false := decide_eq_false c6
              clear c6
              by_cases c7 : (rd l0 x10_1) ≥ a1
              · rw [if_pos c7] at H
                have c7b0 : decide (a1 ≤ (rd l0 x10_1)) = true := decide_eq_true c7
                clear c7
                obtain rfl := Option.some.inj H
                have p1001 : 0 ≤ (x10_1 : Int) := of_decide_eq_true (by first | (with_reducible assumption) | assumption)
                have q1001 : x10_1 < (l0.length : Int) := of_decide_eq_true (by first | (with_reducible assumption) | assumption)
                obtain ⟨ad1001, e1001, hx1001_0⟩ := Kd.at_int HR0.out x10_1 p1001 q1001
                cases e1001
                replace p1001 := eq_true p1001
                replace q1001 := eq_true q1001
                go_wp2
                go_ret
                exact ⟨by first | rfl | (simp; done) | (simp [*]; done), by repeat (first | exact Drawn0.refl _ | apply Drawn0.step)⟩
              · rw [if_neg c7] at H
                have c7b0 : decide (a1 ≤ (rd l0 x10_1)) = false := decide_eq_false c7
                clear c7
                by_cases c8 : 0 ≤ (rd l0 x10_1)
                · rw [if_pos c8] at H
                  have c8b0 := eq_true c8
                  have c8b1 : decide (0 ≤ (rd l0 x10_1)) = true := decide_eq_true c8
                  clear c8
                  obtain ⟨ji9, hji9⟩ : ∃ j_ : Int, (shr .i64 x5_1 (rd l0 x10_1)) = j_ := ⟨_, rfl⟩
                  replace H : (if (Go.bits .and .i64 (ji9) 1) = 1 then (some false) else (sackbutref05_Part.l0 k1 a1 (Go.bits .or .i64 x5_1 (shl .i64 1 (rd l0 x10_1))) l0 (l0.length : Int) (wrap64 (x10_1 + 1)))) = some r := by first | (rw [hji9] at H; exact H) | (simp only [hji9] at H ⊢; exact H)
                  have hji9_ : (x5_1 / 2 ^ min (rd l0 x10_1).toNat 64) = ji9 := hji9
                  have hji9z : (rd l0 x10_1) ≤ 64 → (x5_1 / 2 ^ (rd l0 x10_1).toNat) = ji9 := shr_small hji9
                  by_cases c10 : (Go.bits .and .i64 (ji9) 1) = 1
                  · rw [if_pos c10] at H
                    have c10b0 : ((Go.bits .and .i64 (ji9) 1) == 1) = true := beq_iff_eq.mpr c10
                    have c10b1 : ((Go.bits .and .i64 (ji9) 1) != 1) = false := bne_eq_false_iff_eq.mpr c10
                    clear c10
                    obtain rfl := Option.some.inj H
                    have p1001 : 0 ≤ (x10_1 : Int) := of_decide_eq_true (by first | (with_reducible assumption) | assumption)
                    have q1001 : x10_1 < (l0.length : Int) := of_decide_eq_true (by first | (with_reducible assumption) | assumption)
                    obtain ⟨ad1001, e1001, hx1001_0⟩ := Kd.at_int HR0.out x10_1 p1001 q1001
                    cases e1001
                    replace p1001 := eq_true p1001
                    replace q1001 := eq_true q1001
                    go_wp2
                    go_ret
                    exact ⟨by first | rfl | (simp; done) | (simp only [← hji9] <;> (first | rfl | simp)) | (simp [*]; done), by repeat (first | exact Drawn0.refl _ | apply Drawn0.step)⟩
                  · rw [if_neg c10] at H
                    have c10b0 : ((Go.bits .and .i64 (ji9) 1) == 1) = false := beq_eq_false_iff_ne.mpr c10
                    have c10b1 : ((Go.bits .and .i64 (ji9) 1) != 1) = true := bne_iff_ne.mpr c10
                    have c11b0 := eq_true (of_decide_eq_true (by first | (with_reducible assumption) | assumption) : 0 ≤ (rd l0 x10_1))
                    obtain ⟨ji12, hji12⟩ : ∃ j_ : Int, (shl .i64 1 (rd l0 x10_1)) = j_ := ⟨_, rfl⟩
                    replace H : (sackbutref05_Part.l0 k1 a1 (Go.bits .or .i64 x5_1 (ji12)) l0 (l0.length : Int) (wrap64 (x10_1 + 1))) = some r := by first | (rw [hji12] at H; exact H) | (simp only [hji12] at H ⊢; exact H)
                    have hji12_ : (IntKind.i64.wrap (1 * 2 ^ min (rd l0 x10_1).toNat 64)) = ji12 := hji12
                    have hji12z : (rd l0 x10_1) ≤ 64 → (IntKind.i64.wrap (1 * 2 ^ (rd l0 x10_1).toNat)) = ji12 := shl_small hji12
                    have hji12u : (IntKind.i64.wrap (2 ^ min (rd l0 x10_1).toNat 64)) = ji12 := by have h_ := hji12_; rw [Int.one_mul] at h_; exact h_
                    have hji12v : (rd l0 x10_1) ≤ 64 → (IntKind.i64.wrap (2 ^ (rd l0 x10_1).toNat)) = ji12 := fun hle_ => by have h_ := hji12z hle_; rw [Int.one_mul] at h_; exact h_
                    have hji12y : (wrap64 (1 * 2 ^ min (rd l0 x10_1).toNat 64)) = ji12 := (i64_w _).symm.trans hji12_
                    have hji12x : (rd l0 x10_1) ≤ 64 → (wrap64 (1 * 2 ^ (rd l0 x10_1).toNat)) = ji12 := fun h_ => (i64_w _).symm.trans (hji12z h_)
                    have H' := Aside0.mk H
                    clear H
                    have p1001 : 0 ≤ (x10_1 : Int) := of_decide_eq_true (by first | (with_reducible assumption) | assumption)
                    have q1001 : x10_1 < (l0.length : Int) := of_decide_eq_true (by first | (with_reducible assumption) | assumption)
                    obtain ⟨ad1001, e1001, hx1001_0⟩ := Kd.at_int HR0.out x10_1 p1001 q1001
                    cases e1001
                    replace p1001 := eq_true p1001
                    replace q1001 := eq_true q1001
                    go_wp2
                    go_roundg k1
                    case measure => have := HK1.out; omega
                    case rel => exact ⟨(Go.bits .or .i64 x5_1 (ji12)), (wrap64 (x10_1 + 1)), (by first | rfl | (simp; done) | (simp only [← hji12] <;> (first | rfl | simp)) | (simp [*]; done)), (by first | rfl | (simp; done) | (simp [*]; done)), H', ⟨by have := HK1.out; omega⟩, by repeat (first | exact Drawn0.refl _ | apply Drawn0.step)⟩
                · rw [if_neg c8] at H
                  exact absurd H (by simp)
          · rw [if_neg c5] at H
            exact absurd H (by simp)
        · rw [if_neg c4] at H
          exact absurd H (by simp)
      · rw [if_neg c3] at H
        have c3b0 : decide (x10_1 < (l0.length : Int)) = false := decide_eq_false c3
        clear c3
        obtain rfl := Option.some.inj H
        go_wp2
        go_ret
        exact ⟨by first | rfl | (simp; done) | (simp [*]; done), by repeat (first | exact Drawn0.refl _ | apply Drawn0.step)⟩

end Go.Proofs.Ytknchioabngbiaa.P
namespace Go.Proofs.Ytknchioabngbiaa.P
open Go.RowKit Go.Proofs.YtknchioabngbiaaW.PrintWords Go.Proofs.YtknchioabngbiaaW.PrintLast Go.Proofs.YtknchioabngbiaaW.PrintMore
attribute [local go_sem] max2_int min2_int max_two min_two max_three min_three max_four min_four   -- for this text's walks alone
set_option linter.unusedVariables false
set_option linter.unusedSimpArgs false

/-! ### sackbutref05_Row: function 12 -/
def sackbutref05_Row.f (k : Nat) (l0 : List Int) : Option (Bool) := if (l0.length : Int) ≥ 2 then (if (l0.length : Int) ≤ 10 then ((sackbutref05_Part.f k l0 (l0.length : Int)).bind fun t1001 => (some t1001)) else (some false)) else (some false)
theorem sackbutref05_Row.mono : ∀ a0 k, LeO (sackbutref05_Row.f k a0) (sackbutref05_Row.f (k + 1) a0) := by
  intro a0 k
  unfold sackbutref05_Row.f
  repeat' first
      | (with_reducible exact sackbutref05_Part.mono _ _ _)
      | (with_reducible exact LeO.refl _)
      | (with_reducible exact LeO.none _)
      | (with_reducible refine LeO.ite ?_ ?_)
      | (with_reducible refine LeO.bind ?_ (fun _ => ?_))
      | exact sackbutref05_Part.mono _ _ _
      | exact LeO.none _
      | refine LeO.ite ?_ ?_
      | refine LeO.bind ?_ (fun _ => ?_)
set_option maxHeartbeats 8000000 in
set_option maxRecDepth 100000 in
theorem sackbutref05_Row.calls (k : Nat) (A0 : Option Addr) (c0 : Nat) (l0 : List Int) (r : Bool) (w : World) (hr0 : Kd.C (Kd.int .i64) w A0 l0.length l0) (hc0 : l0.length ≤ c0) (h : sackbutref05_Row.f k l0 = some r) :
    Calls Try.prog 12 #[.slice A0 l0.length c0] w fun e w' => e = .returned (.bool r) ∧ Drawn0 w w' := by
  have HR0 := Aside0.mk hr0
  have HC0 := Aside0.mk hc0
  clear hr0 hc0
  have H : (if (l0.length : Int) ≥ 2 then (if (l0.length : Int) ≤ 10 then ((sackbutref05_Part.f k l0 (l0.length : Int)).bind fun t1001 => (some t1001)) else (some false)) else (some false)) = some r := h
  clear h
  by_cases c2 : (l0.length : Int) ≥ 2
  · rw [if_pos c2] at H
    have c2b0 : decide (2 ≤ (l0.length : Int)) = true := decide_eq_true c2
    have c2b1 : decide (2 ≤ l0.length) = true := decide_eq_true (by omega)
    clear c2
    by_cases c3 : (l0.length : Int) ≤ 10
    · rw [if_pos c3] at H
      have c3b0 : decide ((l0.length : Int) ≤ 10) = true := decide_eq_true c3
      have c3b1 : decide (l0.length ≤ 10) = true := decide_eq_true (by omega)
      clear c3
      replace H := Option.bind_eq_some_iff.mp H
      obtain ⟨t1001, A40, H⟩ := H
      replace H : (some t1001) = some r := H
      have A4 := Aside0.mk A40
      clear A40
      obtain rfl := Option.some.inj H
      go_enter Try.func12, Try.ntmps12
      go_wp2_with (first | (go_at_call 35; (with_reducible refine (sackbutref05_Part.calls k _ _ l0 (l0.length : Int) t1001 _ ?side1 ?side2 A4.out).mono ?_); (case side1 => repeat (first | exact HR0.out | (with_reducible refine Kd.C_alloc ?_ _) | (with_reducible refine Kd.C_drewN ?_ _) | (with_reducible refine Kd.C_drew ?_))); (case side2 => exact HC0.out); rintro e w' ⟨rfl, ⟨nd, rfl⟩⟩))
      go_ret
      exact ⟨by first | rfl | (simp; done) | (simp [*]; done), by repeat (first | exact Drawn0.refl _ | apply Drawn0.step)⟩
    · rw [if_neg c3] at H
      have c3b0 : decide ((l0.length : Int) ≤ 10) = false := decide_eq_false c3
      have c3b1 : decide (l0.length ≤ 10) = false := decide_eq_false (by omega)
      clear c3
      obtain rfl := Option.some.inj H
      go_enter Try.func12, Try.ntmps12
      go_wp2
      go_ret
      exact ⟨by first | rfl | (simp; done) | (simp [*]; done), by repeat (first | exact Drawn0.refl _ | apply Drawn0.step)⟩
  · rw [if_neg c2] at H
    have c2b0 : decide (2 ≤ (l0.length : Int)) = false := decide_eq_false c2
    have c2b1 : decide (2 ≤ l0.length) = false := decide_eq_false (by omega)
    clear c2
    obtain rfl := Option.some.inj H
    go_enter Try.func12, Try.ntmps12
    go_wp2
    go_ret
    exact ⟨by first | rfl | (simp; done) | (simp [*]; done), by repeat (first | exact Drawn0.refl _ | apply Drawn0.step)⟩

end Go.Proofs.Ytknchioabngbiaa.P
namespace Go.Proofs.Ytknchioabngbiaa.P
open Go.RowKit Go.Proofs.YtknchioabngbiaaW.PrintWords Go.Proofs.YtknchioabngbiaaW.PrintLast Go.Proofs.YtknchioabngbiaaW.PrintMore
attribute [local go_sem] max2_int min2_int max_two min_two max_three min_three max_four min_four   -- for this text's walks alone
set_option linter.unusedVariables false
set_option linter.unusedSimpArgs false

/-! ### rows_row_valid: function 38 -/
mutual
def rows_row_valid.j0 : Nat → List Int → Int → Bool → Option (Bool)
  | 0, _, _, _ => none
  | k + 1, x0, x3, x14 => if x14 = true then (some false) else (rows_row_valid.l0 k x3 0 x0 (x0.length : Int) 0)
def rows_row_valid.l0 : Nat → Int → Int → List Int → Int → Int → Option (Bool)
  | 0, _, _, _, _, _ => none
  | k + 1, x3, x4, x15, x16, x17 => if x17 < x16 then (if 0 ≤ x17 then (if x17 < (x15.length : Int) then (if (rd x15 x17) < 0 then (some false) else (if (rd x15 x17) ≥ x3 then (some false) else (if 0 ≤ (rd x15 x17) then (rows_row_valid.l0 k x3 (Go.bits .or .i64 x4 (shl .i64 1 (rd x15 x17))) x15 x16 (wrap64 (x17 + 1))) else (none)))) else (none)) else (none)) else (if 0 ≤ x3 then (some (x4 == (wrap64 ((shl .i64 1 x3) - 1)))) else (none))
end
def rows_row_valid.f (k : Nat) (l0 : List Int) : Option (Bool) := if (l0.length : Int) < 2 then (rows_row_valid.j0 k l0 (l0.length : Int) true) else (rows_row_valid.j0 k l0 (l0.length : Int) (decide ((l0.length : Int) > 10)))
theorem rows_row_valid.mono_l : ∀ k, (∀ y0 y1 y2, LeO (rows_row_valid.j0 k y0 y1 y2) (rows_row_valid.j0 (k + 1) y0 y1 y2)) ∧ (∀ y0 y1 y2 y3 y4, LeO (rows_row_valid.l0 k y0 y1 y2 y3 y4) (rows_row_valid.l0 (k + 1) y0 y1 y2 y3 y4))
  | 0 => ⟨fun _ _ _ r h => by simp [rows_row_valid.j0] at h, fun _ _ _ _ _ r h => by simp [rows_row_valid.l0] at h⟩
  | k + 1 => by
    obtain ⟨ih0, ih1⟩ := rows_row_valid.mono_l k
    refine ⟨?_, ?_⟩
    · intro y0 y1 y2
      unfold rows_row_valid.j0
      repeat' first
      | (with_reducible exact ih0 _ _ _)
      | (with_reducible exact ih1 _ _ _ _ _)
      | (with_reducible exact LeO.refl _)
      | (with_reducible exact LeO.none _)
      | (with_reducible refine LeO.ite ?_ ?_)
      | (with_reducible refine LeO.bind ?_ (fun _ => ?_))
      | exact ih0 _ _ _
      | exact ih1 _ _ _ _ _
      | exact LeO.none _
      | refine LeO.ite ?_ ?_
      | refine LeO.bind ?_ (fun _ => ?_)
    · intro y0 y1 y2 y3 y4
      unfold rows_row_valid.l0
      repeat' first
      | (with_reducible exact ih0 _ _ _)
      | (with_reducible exact ih1 _ _ _ _ _)
      | (with_reducible exact LeO.refl _)
      | (with_reducible exact LeO.none _)
      | (with_reducible refine LeO.ite ?_ ?_)
      | (with_reducible refine LeO.bind ?_ (fun _ => ?_))
      | exact ih0 _ _ _
      | exact ih1 _ _ _ _ _
      | exact LeO.none _
      | refine LeO.ite ?_ ?_
      | refine LeO.bind ?_ (fun _ => ?_)
theorem rows_row_valid.mono : ∀ a0 k, LeO (rows_row_valid.f k a0) (rows_row_valid.f (k + 1) a0) := by
  intro a0 k
  obtain ⟨ih0, ih1⟩ := rows_row_valid.mono_l k
  unfold rows_row_valid.f
  repeat' first
      | (with_reducible exact ih0 _ _ _)
      | (with_reducible exact ih1 _ _ _ _ _)
      | (with_reducible exact LeO.refl _)
      | (with_reducible exact LeO.none _)
      | (with_reducible refine LeO.ite ?_ ?_)
      | (with_reducible refine LeO.bind ?_ (fun _ => ?_))
      | exact ih0 _ _ _
      | exact ih1 _ _ _ _ _
      | exact LeO.none _
      | refine LeO.ite ?_ ?_
      | refine LeO.bind ?_ (fun _ => ?_)
set_option maxHeartbeats 8000000 in
set_option maxRecDepth 100000 in
theorem rows_row_valid.calls (k : Nat) (A0 : Option Addr) (c0 : Nat) (l0 : List Int) (r : Bool) (w : World) (hr0 : Kd.C (Kd.int .i64) w A0 l0.length l0) (hc0 : l0.length ≤ c0) (h : rows_row_valid.f k l0 = some r) :
    Calls Try.prog 38 #[.slice A0 l0.length c0] w fun e w' => e = .returned (.bool r) ∧ Drawn0 w w' := by
  have HR0 := Aside0.mk hr0
  have HC0 := Aside0.mk hc0
  clear hr0 hc0
  have H : (if (l0.length : Int) < 2 then (rows_row_valid.j0 k l0 (l0.length : Int) true) else (rows_row_valid.j0 k l0 (l0.length : Int) (decide ((l0.length : Int) > 10)))) = some r := h
  clear h
  have HC2 := Aside0.mk H
  clear H
  go_enter Try.func38, Try.ntmps38
  go_upto_region 2 with (fail)
  go_cut [14] (fun v14 wc => ∃ (kq : Nat) (x14_1 : Bool), v14 = .bool x14_1 ∧ Aside0 (rows_row_valid.j0 kq l0 (l0.length : Int) x14_1 = some r) ∧ Aside0 (kq ≤ k) ∧ Drawn0 w wc)
  case first =>
    have H := HC2.out
    clear HC2
    by_cases c3 : (l0.length : Int) < 2
    · rw [if_pos c3] at H
      have c3b0 : decide ((l0.length : Int) < 2) = true := decide_eq_true c3
      have c3b1 : decide (l0.length < 2) = true := decide_eq_true (by omega)
      clear c3
      (first | rw [c3b0] | (simp only [i64_w, i32_w]; rw [c3b0]) | skip)
      have H' := Aside0.mk H
      clear H
      go_wp2
      go_meet
      case rel => exact ⟨_, (true), (by first | rfl | (simp; done) | (simp [*]; done)), H', ⟨by first | omega | exact Nat.le_refl _⟩, by repeat (first | exact Drawn0.refl _ | apply Drawn0.step)⟩
    · rw [if_neg c3] at H
      have c3b0 : decide ((l0.length : Int) < 2) = false := decide_eq_false c3
      have c3b1 : decide (l0.length < 2) = false := decide_eq_false (by omega)
      clear c3
      (first | rw [c3b0] | (simp only [i64_w, i32_w]; rw [c3b0]) | skip)
      have H' := Aside0.mk H
      clear H
      go_wp2
      go_meet
      case rel => exact ⟨_, (decide ((l0.length : Int) > 10)), (by first | rfl | (simp; done) | (simp [*]; done)), H', ⟨by first | omega | exact Nat.le_refl _⟩, by repeat (first | exact Drawn0.refl _ | apply Drawn0.step)⟩
  case rest =>
    clear HC2
    try clear p2
    try clear c3
    try clear c3b0
    try clear c3b1
    obtain ⟨kq, x14_1, rfl, HA, HJ1, ⟨mc1, rfl⟩⟩ := hcut
    cases kq with
    | zero => exact absurd HA.out (by simp [rows_row_valid.j0])
    | succ kj1 =>
      have H := HA.out
      clear HA
      simp only [rows_row_valid.j0] at H
      by_cases c4 : x14_1 = true
      · subst c4
        have H1 : (some false) = some r := by rw [if_pos rfl] at H; exact H
        clear H
        have H := H1
        clear H1
        obtain rfl := Option.some.inj H
        go_wp2
        go_ret
        exact ⟨by first | rfl | (simp; done) | (simp [*]; done), by repeat (first | exact Drawn0.refl _ | apply Drawn0.step)⟩
      · replace c4 := Bool.eq_false_iff.mpr c4
        subst c4
        have H1 : (rows_row_valid.l0 kj1 (l0.length : Int) 0 l0 (l0.length : Int) 0) = some r := by rw [if_neg (show ¬ (false = true) by decide)] at H; exact H
        clear H
        have H := H1
        clear H1
        have H' := Aside0.mk H
        clear H
        go_wp2
        go_loopg [4, 17] kj1 (fun kq v4 v17 w' => ∃ (x4_2 : Int) (x17_2 : Int), v4 = .int .i64 x4_2 ∧ v17 = .int .i64 x17_2 ∧ Aside0 (rows_row_valid.l0 kq (l0.length : Int) x4_2 l0 (l0.length : Int) x17_2 = some r) ∧ Aside0 (kq ≤ kj1) ∧ Drawn0 w w')
        case atStart => exact ⟨(0), (0), (by first | rfl | (simp; done) | (simp [*]; done)), (by first | rfl | (simp; done) | (simp [*]; done)), H', ⟨Nat.le_refl _⟩, by repeat (first | exact Drawn0.refl _ | apply Drawn0.step)⟩
        case round =>
          clear H'
          try clear c1
          try clear p2
          try clear c3
          try clear c3b0
          try clear c3b1
          try clear c4
          try clear p2
          obtain ⟨x4_2, x17_2, rfl, rfl, HA, HK2, ⟨m2, rfl⟩⟩ := hrel
          cases gk with
          | zero => exact absurd HA.out (by simp [rows_row_valid.l0])
          | succ k2 =>
            have H := HA.out
            clear HA
            simp only [rows_row_valid.l0] at H
            by_cases c5 : x17_2 < (l0.length : Int)
            · rw [if_pos c5] at H
              have c5b0 : decide (x17_2 < (l0.length : Int)) = true := decide_eq_true c5
              clear c5
              by_cases c6 : 0 ≤ x17_2
              · rw [if_pos c6] at H
                have c6b0 : decide (0 ≤ x17_2) = true := decide_eq_true c6
                clear c6
                by_cases c7 : x17_2 < (l0.length : Int)
                · rw [if_pos c7] at H
                  have c7b0 : decide (x17_2 < (l0.length : Int)) = true := decide_eq_true c7
                  clear c7
                  by_cases c8 : (rd l0 x17_2) < 0
                  · rw [if_pos c8] at H
                    have c8b0 : decide ((rd l0 x17_2) < 0) = true := decide_eq_true c8
                    clear c8
                    obtain rfl := Option.some.inj H
                    have p1001 : 0 ≤ (x17_2 : Int) := of_decide_eq_true (by first | (with_reducible assumption) | assumption)
                    have q1001 : x17_2 < (l0.length : Int) := of_decide_eq_true (by first | (with_reducible assumption) | assumption)
                    obtain ⟨ad1001, e1001, hx1001_0⟩ := Kd.at_int HR0.out x17_2 p1001 q1001
                    cases e1001
                    replace p1001 := eq_true p1001
                    replace q1001 := eq_true q1001
                    go_wp2
                    go_ret
                    exact ⟨by first | rfl | (simp; done) | (simp [*]; done), by repeat (first | exact Drawn0.refl _ | apply Drawn0.step)⟩
                  · rw [if_neg c8] at H
                    have c8b0 : decide ((rd l0 x17_2) < 0) = false := decide_eq_false c8
                    clear c8
                    by_cases c9 : (rd l0 x17_2) ≥ (l0.length : Int)
                    · rw [if_pos c9] at H
                      have c9b0 : decide ((l0.length : Int) ≤ (rd l0 x17_2)) = true := decide_eq_true c9
                      clear c9
                      obtain rfl := Option.some.inj H
                      have p1001 : 0 ≤ (x17_2 : Int) := of_decide_eq_true (by first | (with_reducible assumption) | assumption)
                      have q1001 : x17_2 < (l0.length : Int) := of_decide_eq_true (by first | (with_reducible assumption) | assumption)
                      obtain ⟨ad1001, e1001, hx1001_0⟩ := Kd.at_int HR0.out x17_2 p1001 q1001
                      cases e1001
                      replace p1001 := eq_true p1001
                      replace q1001 := eq_true q1001
                      go_wp2
                      go_ret
                      exact ⟨by first | rfl | (simp; done) | (simp [*]; done), by repeat (first | exact Drawn0.refl _ | apply Drawn0.step)⟩
                    · rw [if_neg c9] at H
                      have c9b0 : decide ((l0.length : Int) ≤ (rd l0 x17_2)) = false := decide_eq_false c9
                      clear c9
                      by_cases c10 : 0 ≤ (rd l0 x17_2)
                      · rw [if_pos c10] at H
                        have c10b0 := eq_true c10
                        have c10b1 : decide (0 ≤ (rd l0 x17_2)) = true := decide_eq_true c10
                        clear c10
                        obtain ⟨ji11, hji11⟩ : ∃ j_ : Int, (shl .i64 1 (rd l0 x17_2)) = j_ := ⟨_, rfl⟩
                        replace H : (rows_row_valid.l0 k2 (l0.length : Int) (Go.bits .or .i64 x4_2 (ji11)) l0 (l0.length : Int) (wrap64 (x17_2 + 1))) = some r := by first | (rw [hji11] at H; exact H) | (simp only [hji11] at H ⊢; exact H)
                        have hji11_ : (IntKind.i64.wrap (1 * 2 ^ min (rd l0 x17_2).toNat 64)) = ji11 := hji11
                        have hji11z : (rd l0 x17_2) ≤ 64 → (IntKind.i64.wrap (1 * 2 ^ (rd l0 x17_2).toNat)) = ji11 := shl_small hji11
                        have hji11u : (IntKind.i64.wrap (2 ^ min (rd l0 x17_2).toNat 64)) = ji11 := by have h_ := hji11_; rw [Int.one_mul] at h_; exact h_
                        have hji11v : (rd l0 x17_2) ≤ 64 → (IntKind.i64.wrap (2 ^ (rd l0 x17_2).toNat)) = ji11 := fun hle_ => by have h_ := hji11z hle_; rw [Int.one_mul] at h_; exact h_
                        have hji11y : (wrap64 (1 * 2 ^ min (rd l0 x17_2).toNat 64)) = ji11 := (i64_w _).symm.trans hji11_
                        have hji11x : (rd l0 x17_2) ≤ 64 → (wrap64 (1 * 2 ^ (rd l0 x17_2).toNat)) = ji11 := fun h_ => (i64_w _).symm.trans (hji11z h_)
                        have H' := Aside0.mk H
                        clear H
                        have p1001 : 0 ≤ (x17_2 : Int) := of_decide_eq_true (by first | (with_reducible assumption) | assumption)
                        have q1001 : x17_2 < (l0.length : Int) := of_decide_eq_true (by first | (with_reducible assumption) | assumption)
                        obtain ⟨ad1001, e1001, hx1001_0⟩ := Kd.at_int HR0.out x17_2 p1001 q1001
                        cases e1001
                        replace p1001 := eq_true p1001
                        replace q1001 := eq_true q1001
                        go_wp2
                        go_roundg k2
                        case measure => have := HJ1.out; have := HK2.out; omega
                        case rel => exact ⟨(Go.bits .or .i64 x4_2 (ji11)), (wrap64 (x17_2 + 1)), (by first | rfl | (simp; done) | (simp only [← hji11] <;> (first | rfl | simp)) | (simp [*]; done)), (by first | rfl | (simp; done) | (simp [*]; done)), H', ⟨by have := HJ1.out; have := HK2.out; omega⟩, by repeat (first | exact Drawn0.refl _ | apply Drawn0.step)⟩
                      · rw [if_neg c10] at H
                        exact absurd H (by simp)
                · rw [if_neg c7] at H
                  exact absurd H (by simp)
              · rw [if_neg c6] at H
                exact absurd H (by simp)
            · rw [if_neg c5] at H
              have c5b0 : decide (x17_2 < (l0.length : Int)) = false := decide_eq_false c5
              clear c5
              by_cases c12 : 0 ≤ (l0.length : Int)
              · rw [if_pos c12] at H
                have c12b0 := eq_true c12
                have c12b1 : decide (0 ≤ (l0.length : Int)) = true := decide_eq_true c12
                clear c12
                obtain ⟨ji13, hji13⟩ : ∃ j_ : Int, (shl .i64 1 (l0.length : Int)) = j_ := ⟨_, rfl⟩
                replace H : (some (x4_2 == (wrap64 ((ji13) - 1)))) = some r := by first | (rw [hji13] at H; exact H) | (simp only [hji13] at H ⊢; exact H)
                have hji13_ : (IntKind.i64.wrap (1 * 2 ^ min (l0.length : Int).toNat 64)) = ji13 := hji13
                have hji13z : (l0.length : Int) ≤ 64 → (IntKind.i64.wrap (1 * 2 ^ (l0.length : Int).toNat)) = ji13 := shl_small hji13
                have hji13p : (IntKind.i64.wrap (1 * 2 ^ min l0.length 64)) = ji13 := hji13_
                have hji13q : (l0.length : Int) ≤ 64 → (IntKind.i64.wrap (1 * 2 ^ l0.length)) = ji13 := hji13z
                have hji13r : (IntKind.i64.wrap (2 ^ min l0.length 64)) = ji13 := by have h_ := hji13p; rw [Int.one_mul] at h_; exact h_
                have hji13s : (l0.length : Int) ≤ 64 → (IntKind.i64.wrap (2 ^ l0.length)) = ji13 := fun hle_ => by have h_ := hji13q hle_; rw [Int.one_mul] at h_; exact h_
                have hji13u : (IntKind.i64.wrap (2 ^ min (l0.length : Int).toNat 64)) = ji13 := by have h_ := hji13_; rw [Int.one_mul] at h_; exact h_
                have hji13v : (l0.length : Int) ≤ 64 → (IntKind.i64.wrap (2 ^ (l0.length : Int).toNat)) = ji13 := fun hle_ => by have h_ := hji13z hle_; rw [Int.one_mul] at h_; exact h_
                have hji13y : (wrap64 (1 * 2 ^ min (l0.length : Int).toNat 64)) = ji13 := (i64_w _).symm.trans hji13_
                have hji13x : (l0.length : Int) ≤ 64 → (wrap64 (1 * 2 ^ (l0.length : Int).toNat)) = ji13 := fun h_ => (i64_w _).symm.trans (hji13z h_)
                obtain rfl := Option.some.inj H
                go_wp2
                go_ret
                exact ⟨by first | rfl | (simp; done) | (simp only [← hji13] <;> (first | rfl | simp)) | (simp [*]; done), by repeat (first | exact Drawn0.refl _ | apply Drawn0.step)⟩
              · rw [if_neg c12] at H
                exact absurd H (by simp)

end Go.Proofs.Ytknchioabngbiaa.P
namespace Go.Proofs.Ytknchioabngbiaa.P
open Go.RowKit Go.Proofs.YtknchioabngbiaaW.PrintWords Go.Proofs.YtknchioabngbiaaW.PrintLast Go.Proofs.YtknchioabngbiaaW.PrintMore
attribute [local go_sem] max2_int min2_int max_two min_two max_three min_three max_four min_four   -- for this text's walks alone
set_option linter.unusedVariables false
set_option linter.unusedSimpArgs false

/-! runs over a list that gather a set -/
def validRun (n : Nat) : Nat → List Int → Bool
  | s, [] => decide (s = 2 ^ n - 1)
  | s, x :: xs => if x < 0 then false else if x ≥ n then false else validRun n (s ||| 2 ^ x.toNat) xs
theorem validRun_iff (n : Nat) : ∀ (xs : List Int) (s : Nat), validRun n s xs = decide ((∀ x ∈ xs, 0 ≤ x ∧ x < n) ∧ orAll s (xs.map Int.toNat) = 2 ^ n - 1) := by
  intro xs
  induction xs with
  | nil => intro s; simp [validRun, orAll]
  | cons x xs ih =>
    intro s
    simp only [validRun, List.map_cons, orAll_cons, ih, List.forall_mem_cons]
    by_cases h1 : x < 0
    · simp [h1]; intro h; omega
    · by_cases h2 : x ≥ n
      · simp [h1, h2]; intro _ h; omega
      · simp only [h1, h2, if_false]
        congr 1
        rw [eq_iff_iff]
        constructor
        · rintro ⟨a, b⟩; exact ⟨⟨⟨by omega, by omega⟩, a⟩, b⟩
        · rintro ⟨⟨_, a⟩, b⟩; exact ⟨a, b⟩
theorem nodup_toNat {xs : List Int} (h : ∀ x ∈ xs, 0 ≤ x) : (xs.map Int.toNat).Nodup ↔ xs.Nodup := by
  induction xs with
  | nil => simp
  | cons x xs ih =>
    have h' := ih (fun y hy => h y (List.mem_cons_of_mem _ hy))
    simp only [List.map_cons, List.nodup_cons, h']
    have : x.toNat ∈ xs.map Int.toNat ↔ x ∈ xs := by
      simp only [List.mem_map]
      constructor
      · rintro ⟨y, hy, e⟩
        have := h y (List.mem_cons_of_mem _ hy); have := h x List.mem_cons_self
        obtain rfl : y = x := by omega
        exact hy
      · intro hx; exact ⟨x, hx, rfl⟩
    rw [this]
def partRun (n : Nat) : Nat → List Int → Bool
  | _, [] => true
  | s, x :: xs => if x < 0 then false else if x ≥ n then false else if s.testBit x.toNat then false else partRun n (s ||| 2 ^ x.toNat) xs
theorem partRun_iff (n : Nat) : ∀ (xs : List Int) (s : Nat), partRun n s xs = decide ((∀ x ∈ xs, 0 ≤ x ∧ x < n ∧ s.testBit x.toNat = false) ∧ xs.Nodup) := by
  intro xs
  induction xs with
  | nil => intro s; simp [partRun]
  | cons x xs ih =>
    intro s
    simp only [partRun, ih, List.forall_mem_cons, List.nodup_cons]
    by_cases h1 : x < 0
    · simp [h1]; intro h; omega
    · by_cases h2 : x ≥ n
      · simp [h1, h2]; intro _ h; omega
      · by_cases h3 : s.testBit x.toNat = true
        · simp [h1, h2, h3]
        · rw [if_neg h1, if_neg h2, if_neg h3, decide_eq_decide]
          simp only [testBit_or_two_pow, Bool.or_eq_false_iff, decide_eq_false_iff_not]
          constructor
          · rintro ⟨a, b⟩
            refine ⟨⟨⟨by omega, by omega, by simpa using h3⟩, fun y hy => ⟨(a y hy).1, (a y hy).2.1, (a y hy).2.2.1⟩⟩, fun hx => (a x hx).2.2.2 rfl, b⟩
          · rintro ⟨⟨_, a⟩, b, c⟩
            refine ⟨fun y hy => ⟨(a y hy).1, (a y hy).2.1, (a y hy).2.2, fun e => b ?_⟩, c⟩
            have := (a y hy).1
            obtain rfl : x = y := by omega
            exact hy

end Go.Proofs.Ytknchioabngbiaa.P
namespace Go.Proofs.Ytknchioabngbiaa.P
open Go.RowKit Go.Proofs.YtknchioabngbiaaW.PrintWords Go.Proofs.YtknchioabngbiaaW.PrintLast Go.Proofs.YtknchioabngbiaaW.PrintMore
attribute [local go_sem] max2_int min2_int max_two min_two max_three min_three max_four min_four   -- for this text's walks alone
set_option linter.unusedVariables false
set_option linter.unusedSimpArgs false

/-! What the functions on rows come to. -/
def IsRow (l : List Int) : Prop := 2 ≤ l.length ∧ l.length ≤ 10 ∧ (∀ x ∈ l, 0 ≤ x ∧ x < l.length) ∧ l.Nodup
instance (l : List Int) : Decidable (IsRow l) := by unfold IsRow; infer_instance
def PartOf (n : Nat) (l : List Int) : Prop := (∀ x ∈ l, 0 ≤ x ∧ x < n) ∧ l.Nodup
instance (n : Nat) (l : List Int) : Decidable (PartOf n l) := by unfold PartOf; infer_instance
theorem rows_mod_f {a n : Int} (hn : 0 < n) (hb : n < 4611686018427387904) : rows_mod.f a n = some (a % n) := by
  unfold rows_mod.f
  rw [if_neg (by omega), tmod_mod hn hb]

/-! a row is valid -/
theorem valid_loop (l : List Int) (hl : l.length ≤ 10) : ∀ (xs pre : List Int) (s : Nat), l = pre ++ xs → s < 2 ^ l.length →
    Ev (fun k => rows_row_valid.l0 k (l.length : Int) (s : Int) l (l.length : Int) (pre.length : Int)) (validRun l.length s xs) := by
  intro xs
  induction xs with
  | nil =>
    intro pre s h0 hs
    refine Ev.succ ?_
    have hsh := shl1_i64 (x := l.length) (by omega)
    have hp := Nat.two_pow_pos l.length
    have hp2 := two_pow_lt63 (x := l.length) (by omega)
    have hw : wrap64 (shl .i64 1 (l.length : Int) - 1) = ((2 ^ l.length - 1 : Nat) : Int) := by
      rw [hsh, wrap_id (by omega) (by have : (2 : Nat) ^ 63 = 9223372036854775808 := by decide
                                      omega)]
      omega
    simp only [rows_row_valid.l0, if_neg (mid_end h0), if_pos (show (0 : Int) ≤ (l.length : Int) by omega), hw]
    have e : ((s : Int) == ((2 ^ l.length - 1 : Nat) : Int)) = decide (s = 2 ^ l.length - 1) := by
      by_cases h : s = 2 ^ l.length - 1
      · simp only [← h]; simp
      · simp only [h, decide_false, beq_eq_false_iff_ne]; omega
    rw [e]
    exact Ev.some _
  | cons x xs ih =>
    intro pre s h0 hs
    refine Ev.succ ?_
    simp only [rows_row_valid.l0, if_pos (mid_lt h0), if_pos (show (0 : Int) ≤ (pre.length : Int) by omega), mid_rd h0, mid_next h0 (by omega), validRun]
    refine Ev.ite (fun e => by simpa [e] using Ev.some false) (fun e => ?_)
    refine Ev.ite (fun e2 => by simpa [e, e2] using Ev.some false) (fun e2 => ?_)
    obtain ⟨m, rfl⟩ := Int.eq_ofNat_of_zero_le (show 0 ≤ x by omega)
    have hp2 := two_pow_lt63 (x := l.length) (by omega)
    have hm2 : 2 ^ m < 2 ^ l.length := Nat.pow_lt_pow_right (by omega) (by omega)
    have hs2 : s ||| 2 ^ m < 2 ^ l.length := Nat.or_lt_two_pow hs hm2
    simp only [if_pos (show (0 : Int) ≤ (m : Int) by omega), shl1_i64 (x := m) (by omega), or_i64 (a := s) (b := 2 ^ m) (by omega) (by omega), if_neg e, if_neg e2, Int.toNat_natCast]
    exact ih (pre ++ [(m : Int)]) (s ||| 2 ^ m) (mid_mv h0) hs2
theorem row_full {l : List Int} (hr : ∀ x ∈ l, 0 ≤ x ∧ x < l.length) : orAll 0 (l.map Int.toNat) = 2 ^ l.length - 1 ↔ l.Nodup := by
  have hr' : ∀ x ∈ l.map Int.toNat, x < l.length := by
    intro x hx
    obtain ⟨y, hy, rfl⟩ := List.mem_map.1 hx
    have := hr y hy
    omega
  rw [orAll_full _ hr', ← nodup_toNat (fun x hx => (hr x hx).1)]
  exact ⟨fun h => nodup_of_full (by simp) h, fun h => full_of_nodup (by simp) hr' h⟩
theorem valid_ev (l : List Int) : Ev (fun k => rows_row_valid.f k l) (decide (IsRow l)) := by
  unfold rows_row_valid.f
  refine Ev.ite (fun e => ?_) (fun e => ?_)
  · refine Ev.succ ?_
    have : ¬ IsRow l := fun h => by have := h.1; omega
    simp only [rows_row_valid.j0, if_true]
    simpa [this] using Ev.some false
  · refine Ev.succ ?_
    simp only [rows_row_valid.j0]
    refine Ev.ite (fun e2 => ?_) (fun e2 => ?_)
    · have e2' : (l.length : Int) > 10 := of_decide_eq_true e2
      have : ¬ IsRow l := fun h => by have := h.2.1; omega
      simpa [this] using Ev.some false
    · have e2' : ¬ (l.length : Int) > 10 := fun h => e2 (decide_eq_true h)
      have hv := valid_loop l (by omega) l [] 0 rfl (Nat.two_pow_pos _)
      have ev : validRun l.length 0 l = decide (IsRow l) := by
        rw [validRun_iff]
        congr 1
        rw [eq_iff_iff]
        unfold IsRow
        constructor
        · rintro ⟨a, b⟩; exact ⟨by omega, by omega, a, (row_full a).1 b⟩
        · rintro ⟨_, _, a, b⟩; exact ⟨a, (row_full a).2 b⟩
      rw [← ev]
      exact hv

/-! the reference's Part and Row -/
theorem Part_loop (l : List Int) (n : Nat) (hn : n ≤ 62) (hl : l.length < 9223372036854775807) : ∀ (xs pre : List Int) (s : Nat), l = pre ++ xs → s < 2 ^ n →
    Ev (fun k => sackbutref05_Part.l0 k (n : Int) (s : Int) l (l.length : Int) (pre.length : Int)) (partRun n s xs) := by
  intro xs
  induction xs with
  | nil =>
    intro pre s h0 hs
    refine Ev.succ ?_
    simp only [sackbutref05_Part.l0, if_neg (mid_end h0)]
    exact Ev.some _
  | cons x xs ih =>
    intro pre s h0 hs
    refine Ev.succ ?_
    simp only [sackbutref05_Part.l0, if_pos (mid_lt h0), if_pos (show (0 : Int) ≤ (pre.length : Int) by omega), mid_rd h0, mid_next h0 hl, partRun]
    refine Ev.ite (fun e => by simpa [e] using Ev.some false) (fun e => ?_)
    refine Ev.ite (fun e2 => by simpa [e, e2] using Ev.some false) (fun e2 => ?_)
    obtain ⟨m, rfl⟩ := Int.eq_ofNat_of_zero_le (show 0 ≤ x by omega)
    have hp2 := two_pow_lt63 (x := n) (by omega)
    have hm2 : 2 ^ m < 2 ^ n := Nat.pow_lt_pow_right (by omega) (by omega)
    have hs2 : s ||| 2 ^ m < 2 ^ n := Nat.or_lt_two_pow hs hm2
    simp only [if_pos (show (0 : Int) ≤ (m : Int) by omega), bit1_i64 (a := s) (x := m) (by omega) (by omega), shl1_i64 (x := m) (by omega), or_i64 (a := s) (b := 2 ^ m) (by omega) (by omega), if_neg e, if_neg e2, Int.toNat_natCast]
    refine Ev.ite (fun e3 => by simpa [e3] using Ev.some false) (fun e3 => ?_)
    simpa [e3] using ih (pre ++ [(m : Int)]) (s ||| 2 ^ m) (mid_mv h0) hs2
theorem Part_ev (l : List Int) (n : Nat) (hn : n ≤ 62) (hl : l.length < 9223372036854775807) : Ev (fun k => sackbutref05_Part.f k l (n : Int)) (decide (PartOf n l)) := by
  have h := Part_loop l n hn hl l [] 0 rfl (Nat.two_pow_pos _)
  rw [partRun_iff] at h
  have e : ((∀ x ∈ l, 0 ≤ x ∧ x < (n : Int) ∧ (0 : Nat).testBit x.toNat = false) ∧ l.Nodup) = PartOf n l := by
    unfold PartOf; simp
  simp only [e] at h
  exact h
theorem Row_ev (l : List Int) : Ev (fun k => sackbutref05_Row.f k l) (decide (IsRow l)) := by
  unfold sackbutref05_Row.f
  refine Ev.ite (fun e => ?_) (fun e => ?_)
  · refine Ev.ite (fun e2 => ?_) (fun e2 => ?_)
    · refine Ev.bind (Part_ev l l.length (by omega) (by omega)) ?_
      have : decide (PartOf l.length l) = decide (IsRow l) := by
        congr 1; rw [eq_iff_iff]; unfold PartOf IsRow
        exact ⟨fun h => ⟨by omega, by omega, h⟩, fun h => h.2.2⟩
      rw [this]; exact Ev.some _
    · have : ¬ IsRow l := fun h => by have := h.2.1; omega
      simpa [this] using Ev.some false
  · have : ¬ IsRow l := fun h => by have := h.1; omega
    simpa [this] using Ev.some false

end Go.Proofs.Ytknchioabngbiaa.P
namespace Go.Proofs.Ytknchioabngbiaa.P
open Go.RowKit Go.Proofs.YtknchioabngbiaaW.PrintWords Go.Proofs.YtknchioabngbiaaW.PrintLast Go.Proofs.YtknchioabngbiaaW.PrintMore
attribute [local go_sem] max2_int min2_int max_two min_two max_three min_three max_four min_four   -- for this text's walks alone
set_option linter.unusedVariables false
set_option linter.unusedSimpArgs false

/-! rows.search.add: one more tone -/
def nums (l : List Nat) : List Int := l.map Int.ofNat
theorem nums_length (l : List Nat) : (nums l).length = l.length := by simp [nums]
theorem nums_snoc (l : List Nat) (x : Nat) : nums (l ++ [x]) = nums l ++ [(x : Int)] := by simp [nums]
theorem nums_get {cur : List Nat} {j : Nat} (h : j < cur.length) : rd (nums cur) (j : Int) = (cur[j] : Int) := by
  rw [rd_get (by rw [nums_length]; exact h)]; simp [nums]
theorem nums_cells {W : World} {A : Option Addr} {cur : List Nat} (h : Kd.C (Kd.int .i64) W A (nums cur).length (nums cur)) : ∀ b, A = some b → ∀ j u, ((nums cur).map (Value.int .i64))[j]? = some u → W.cell? (b.add j) = some u := by
  intro b hb j u hu
  rw [List.getElem?_map, Option.map_eq_some_iff] at hu
  obtain ⟨x, hx, rfl⟩ := hu
  have hj := (List.getElem?_eq_some_iff.1 hx).1
  obtain ⟨ad, e, hc⟩ := Kd.at_int h (j : Int) (by omega) (by omega)
  rw [hb] at e
  injection e with e
  subst e
  rw [Int.toNat_natCast, rd_get hj] at hc
  rw [hc, (List.getElem?_eq_some_iff.1 hx).2]
theorem R_fresh {w : World} {base : Nat} {v : Value} {xs : List Int} (h : w.ownsRow base 3 1 v xs.length (xs.map (Value.int .i64))) : Kd.R (Kd.int .i64) 3 w base (fun _ => True) v xs := Kd.R_of_own (h1 := fun _ => rfl) h (fun _ _ => trivial)
/-- the tones and the steps that came, with one more tone -/
def addS (n : Nat) (cur : List Nat) (t s x : Nat) : Option (Nat × Nat) :=
  if t.testBit x then none else match cur.getLast? with
    | none => some (t ||| 2 ^ x, s)
    | some y => if s.testBit ((x + n - y) % n) then none else some (t ||| 2 ^ x, s ||| 2 ^ ((x + n - y) % n))
def AddPost (n : Nat) (cur : List Nat) (x : Nat) (W : World) (o : Option (Nat × Nat)) (e : Ending) (W' : World) : Prop := Below W.heap.size W W' ∧ match o with
  | none => ∃ (A : Option Addr) (l c : Nat) (t s : Int), e = .returned (.tuple #[.agg #[.int .i64 (n : Int), .slice A l c, .int .i64 t, .int .i64 s], .bool false])
  | some (t', s') => ∃ A c, e = .returned (.tuple #[.agg #[.int .i64 (n : Int), .slice A (nums (cur ++ [x])).length c, .int .i64 (t' : Int), .int .i64 (s' : Int)], .bool true]) ∧ Kd.R (Kd.int .i64) 3 W' W.heap.size (fun _ => True) (.slice A (nums (cur ++ [x])).length c) (nums (cur ++ [x]))
theorem results_srch {fn : Func} {p q : Tmp} (h : fn.results = #[.cell p 59, .tmp q]) (tmps : Array Value) (w : World) (b : Nat) (x0 x1 x2 x3 u : Value)
    (hp : tmps.getD p undef = .pointer (some ⟨b, 0, none⟩)) (hq : tmps.getD q undef = u)
    (c0 : w.cell? ⟨b, 0, none⟩ = some x0) (c1 : w.cell? ⟨b, 1, none⟩ = some x1) (c2 : w.cell? ⟨b, 2, none⟩ = some x2) (c3 : w.cell? ⟨b, 3, none⟩ = some x3) :
    (results fn tmps).run Try.prog w = .ok (.tuple #[.agg #[x0, x1, x2, x3], u]) w := by
  have hp' : tmps[p]?.getD undef = .pointer (some ⟨b, 0, none⟩) := by simpa using hp
  have hq' : tmps[q]?.getD undef = u := by simpa using hq
  unfold results
  simp only [h]
  go_simp
theorem add_block_ (a : Addr) (n : Nat) : (a.add n).block = a.block := by unfold Addr.add; split <;> rfl
theorem four_cells {W : World} {b : Nat} {x0 x1 x2 x3 : Value} {t : TypeId} (h : W.heap[b]? = some (.cells #[x0, x1, x2, x3] t)) : W.cell? ⟨b, 0, none⟩ = some x0 ∧ W.cell? ⟨b, 1, none⟩ = some x1 ∧ W.cell? ⟨b, 2, none⟩ = some x2 ∧ W.cell? ⟨b, 3, none⟩ = some x3 := by
  refine ⟨?_, ?_, ?_, ?_⟩ <;> (unfold World.cell?; simp only [h]; simp)
theorem two_four (w : World) (o : Obj) (x0 x1 x2 x3 : Value) (t : TypeId) : ((w.alloc o).alloc (.cells #[x0, x1, x2, x3] t)).heap[w.heap.size + 1]? = some (.cells #[x0, x1, x2, x3] t) := by
  have h := World.alloc_heap_new (w.alloc o) (.cells #[x0, x1, x2, x3] t)
  rwa [World.size_alloc] at h
set_option maxHeartbeats 8000000 in
set_option maxRecDepth 100000 in
theorem add_has {n : Nat} {cur : List Nat} {t s x : Nat} {A : Option Addr} {c : Nat} {W : World} (hn : 1 ≤ n) (hn2 : n ≤ 40) (hx : x < n) (ht : t < 2 ^ n) (hb : t.testBit x = true) :
    Calls Try.prog 52 #[.agg #[.int .i64 (n : Int), .slice A (nums cur).length c, .int .i64 (t : Int), .int .i64 (s : Int)], .int .i64 (x : Int)] W (AddPost n cur x W none) := by
  have h62 : 2 ^ n < 2 ^ 63 := Nat.pow_lt_pow_right (by omega) (by omega)
  obtain ⟨sh, hsh, hbit⟩ := bit_div (a := t) (x := x) (Nat.lt_trans ht h62) (by omega)
  rw [hb, if_pos rfl] at hbit
  have hx64 : x ≤ 64 := by omega
  clear hb ht h62
  go_enter Try.func52, Try.ntmps52
  obtain ⟨q0, q1, q2, q3⟩ := four_cells (two_four W (.cells #[.int .i64 (n : Int), .slice A (nums cur).length c, .int .i64 (t : Int), .int .i64 (s : Int)] 59) (.int .i64 (n : Int)) (.slice A (nums cur).length c) (.int .i64 (t : Int)) (.int .i64 (s : Int)) 59)
  have Q0 := Aside0.mk q0
  have Q1 := Aside0.mk q1
  have Q2 := Aside0.mk q2
  have Q3 := Aside0.mk q3
  clear q0 q1 q2 q3
  go_wp2
  refine bodyPost_ret (results_srch rfl _ _ (W.heap.size + 1) _ _ _ _ _ rfl rfl Q0.out Q1.out Q2.out Q3.out) rfl ?_
  exact ⟨below_alloc (below_alloc (Below.refl _ _) _) _, _, _, _, _, _, rfl⟩
/-- the searcher's box beside another one -/
structure SBox (W : World) (S : Nat) (n A t s : Value) (W0 : World) : Prop where
  c0 : W0.cell? ⟨S, 0, none⟩ = some n
  c1 : W0.cell? ⟨S, 1, none⟩ = some A
  c2 : W0.cell? ⟨S, 2, none⟩ = some t
  c3 : W0.cell? ⟨S, 3, none⟩ = some s
  f1 : W0.frozen? ⟨S, 1, none⟩ = false
  f2 : W0.frozen? ⟨S, 2, none⟩ = false
  f3 : W0.frozen? ⟨S, 3, none⟩ = false
theorem frozen_cells {W : World} {b i : Nat} {cs : Array Value} {t : TypeId} (h : W.heap[b]? = some (.cells cs t)) : W.frozen? ⟨b, i, none⟩ = false := by
  unfold World.frozen?; simp only [h]; simp
theorem sbox_new (W : World) (n A t s : Value) (T : TypeId) (o : Obj) (W0 : World) (h : (W.alloc (.cells #[n, A, t, s] T)).alloc o = W0) : SBox W W.heap.size n A t s W0 ∧ W0.heap.size = W.heap.size + 2 ∧ Below W.heap.size W W0 ∧ W0.heap[W.heap.size + 1]? = some o := by
  subst h
  have h1 := World.alloc_heap_new W (.cells #[n, A, t, s] T)
  have h3 := World.alloc_heap_new (W.alloc (.cells #[n, A, t, s] T)) o
  rw [World.size_alloc] at h3
  have h2 : ((W.alloc (.cells #[n, A, t, s] T)).alloc o).heap[W.heap.size]? = some (.cells #[n, A, t, s] T) := ((World.grownBy_alloc (W.alloc (.cells #[n, A, t, s] T)) o none).block W.heap.size (by simp) (by simp)).trans h1
  obtain ⟨q0, q1, q2, q3⟩ := four_cells h2
  exact ⟨⟨q0, q1, q2, q3, frozen_cells h2, frozen_cells h2, frozen_cells h2⟩, by simp [World.size_alloc], below_alloc (below_alloc (Below.refl _ _) _) _, h3⟩
/-- after the append: the box of the searcher, with its tones -/
theorem sbox_put {W0 w5 : World} {S : Nat} {n A t s b2 : Value} {o : Obj} (h0 : W0.cell? ⟨S, 0, none⟩ = some n) (h1 : W0.cell? ⟨S, 1, none⟩ = some A) (h2 : W0.cell? ⟨S, 2, none⟩ = some t) (h3 : W0.cell? ⟨S, 3, none⟩ = some s)
    (f1 : W0.frozen? ⟨S, 1, none⟩ = false) (f3 : W0.frozen? ⟨S, 3, none⟩ = false) (hS : S + 1 < W0.heap.size) (ho : W0.heap[S + 1]? = some o) (hb : Below W0.heap.size (W0.setCell ⟨S, 2, none⟩ b2) w5) :
    w5.cell? ⟨S, 0, none⟩ = some n ∧ w5.cell? ⟨S, 1, none⟩ = some A ∧ w5.cell? ⟨S, 2, none⟩ = some b2 ∧ w5.cell? ⟨S, 3, none⟩ = some s ∧ w5.frozen? ⟨S, 1, none⟩ = false ∧ w5.frozen? ⟨S, 3, none⟩ = false ∧ w5.heap[S + 1]? = some o := by
  have e : ∀ j, w5.cell? ⟨S, j, none⟩ = (W0.setCell ⟨S, 2, none⟩ b2).cell? ⟨S, j, none⟩ := fun j => hb.cell (p := ⟨S, j, none⟩) (by simp only; omega)
  have ne : ∀ j, j ≠ 2 → (⟨S, 2, none⟩ : Addr) ≠ ⟨S, j, none⟩ := fun j hj e => hj (by injection e with _ e; exact e.symm)
  refine ⟨(e 0).trans ((World.cell?_setCell_other _ _ _ _ (ne 0 (by decide))).trans h0), (e 1).trans ((World.cell?_setCell_other _ _ _ _ (ne 1 (by decide))).trans h1), (e 2).trans (World.cell?_setCell_same' _ _ _ (by rw [h2]; rfl)), (e 3).trans ((World.cell?_setCell_other _ _ _ _ (ne 3 (by decide))).trans h3), ?_, ?_, ?_⟩
  · exact (hb.frozen (p := ⟨S, 1, none⟩) (by simp only; omega)).trans ((World.frozen?_setCell _ _ _ _).trans f1)
  · exact (hb.frozen (p := ⟨S, 3, none⟩) (by simp only; omega)).trans ((World.frozen?_setCell _ _ _ _).trans f3)
  · exact (hb.block (S + 1) hS).trans ((Below.heap_setCell _ _ _ _ (by simp only [ne_eq]; omega)).trans ho)
theorem four_some (w : World) (p : Addr) (v : Value) (T : Nat) (h : p.block ≠ T) {x0 x1 x2 x3 : Value} {t : TypeId} (ho : w.heap[T]? = some (.cells #[x0, x1, x2, x3] t)) : (w.setCell p v).heap[T]? = some (.cells #[x0, x1, x2, x3] t) := (Below.heap_setCell _ _ _ _ (by simp only [ne_eq]; omega)).trans ho
theorem four_put (W : World) (T : Nat) (y0 y1 y2 y3 : Value) {x0 x1 x2 x3 : Value} {t : TypeId} (ho : W.heap[T]? = some (.cells #[x0, x1, x2, x3] t)) :
    ((((W.setCell ⟨T, 0, none⟩ y0).setCell ⟨T, 1, none⟩ y1).setCell ⟨T, 2, none⟩ y2).setCell ⟨T, 3, none⟩ y3).cell? ⟨T, 0, none⟩ = some y0 ∧ ((((W.setCell ⟨T, 0, none⟩ y0).setCell ⟨T, 1, none⟩ y1).setCell ⟨T, 2, none⟩ y2).setCell ⟨T, 3, none⟩ y3).cell? ⟨T, 1, none⟩ = some y1 ∧ ((((W.setCell ⟨T, 0, none⟩ y0).setCell ⟨T, 1, none⟩ y1).setCell ⟨T, 2, none⟩ y2).setCell ⟨T, 3, none⟩ y3).cell? ⟨T, 2, none⟩ = some y2 ∧ ((((W.setCell ⟨T, 0, none⟩ y0).setCell ⟨T, 1, none⟩ y1).setCell ⟨T, 2, none⟩ y2).setCell ⟨T, 3, none⟩ y3).cell? ⟨T, 3, none⟩ = some y3 := by
  obtain ⟨c0, c1, c2, c3⟩ := four_cells ho
  have ne : ∀ i j, i ≠ j → (⟨T, i, none⟩ : Addr) ≠ ⟨T, j, none⟩ := fun i j hj e => hj (by injection e with _ e)
  have oth : ∀ (V : World) (i j : Nat) (y : Value), i ≠ j → (V.setCell ⟨T, i, none⟩ y).cell? ⟨T, j, none⟩ = V.cell? ⟨T, j, none⟩ := fun V i j y h => World.cell?_setCell_other _ _ _ _ (ne i j h)
  refine ⟨?_, ?_, ?_, ?_⟩
  · rw [oth _ _ _ _ (by decide), oth _ _ _ _ (by decide), oth _ _ _ _ (by decide)]
    exact World.cell?_setCell_same' _ _ _ (by rw [c0]; rfl)
  · rw [oth _ _ _ _ (by decide), oth _ _ _ _ (by decide)]
    exact World.cell?_setCell_same' _ _ _ (by rw [oth _ _ _ _ (by decide), c1]; rfl)
  · rw [oth _ _ _ _ (by decide)]
    exact World.cell?_setCell_same' _ _ _ (by rw [oth _ _ _ _ (by decide), oth _ _ _ _ (by decide), c2]; rfl)
  · exact World.cell?_setCell_same' _ _ _ (by rw [oth _ _ _ _ (by decide), oth _ _ _ _ (by decide), oth _ _ _ _ (by decide), c3]; rfl)
theorem R_sets {w : World} {base S : Nat} {v : Value} {xs : List Int} (h : Kd.R (Kd.int .i64) 3 w base (fun _ => True) v xs) (hb : S + 2 ≤ base) (a y0 y1 y2 y3 : Value) :
    Kd.R (Kd.int .i64) 3 (((((w.setCell ⟨S, 1, none⟩ a).setCell ⟨S + 1, 0, none⟩ y0).setCell ⟨S + 1, 1, none⟩ y1).setCell ⟨S + 1, 2, none⟩ y2).setCell ⟨S + 1, 3, none⟩ y3) S (fun _ => True) v xs := by
  have hblk : ∀ i, S + 2 ≤ i → (((((w.setCell ⟨S, 1, none⟩ a).setCell ⟨S + 1, 0, none⟩ y0).setCell ⟨S + 1, 1, none⟩ y1).setCell ⟨S + 1, 2, none⟩ y2).setCell ⟨S + 1, 3, none⟩ y3).heap[i]? = w.heap[i]? := by
    intro i hi
    rw [Below.heap_setCell _ _ _ _ (by simp only [ne_eq]; omega), Below.heap_setCell _ _ _ _ (by simp only [ne_eq]; omega), Below.heap_setCell _ _ _ _ (by simp only [ne_eq]; omega), Below.heap_setCell _ _ _ _ (by simp only [ne_eq]; omega), Below.heap_setCell _ _ _ _ (by simp only [ne_eq]; omega)]
  exact Kd.R_lower (Kd.R_mono (Kd.R_move (Kd.R_bound h) (fun i hi => hblk i (by have := hi.2.1; omega))) (fun _ _ => trivial)) (by omega)
set_option maxHeartbeats 8000000 in
set_option maxRecDepth 100000 in
theorem add_first {n : Nat} {cur : List Nat} {t s x : Nat} {A : Option Addr} {c : Nat} {W : World} (hn : 1 ≤ n) (hn2 : n ≤ 40) (hx : x < n) (ht : t < 2 ^ n) (hb : t.testBit x = false) (hcur : cur = []) (hC : Kd.C (Kd.int .i64) W A (nums cur).length (nums cur)) (hcap : (nums cur).length ≤ c) :
    Calls Try.prog 52 #[.agg #[.int .i64 (n : Int), .slice A (nums cur).length c, .int .i64 (t : Int), .int .i64 (s : Int)], .int .i64 (x : Int)] W (AddPost n cur x W (some (t ||| 2 ^ x, s))) := by
  have h62 : 2 ^ n < 2 ^ 63 := Nat.pow_lt_pow_right (by omega) (by omega)
  obtain ⟨sh, hsh, hbit⟩ := bit_div (a := t) (x := x) (Nat.lt_trans ht h62) (by omega)
  rw [hb, if_neg (by decide)] at hbit
  obtain ⟨p2, b2, r1, r2, r3, hb2, hb2l⟩ := one_more (show n ≤ 62 by omega) ht hx
  rw [hb2]
  have hx64 : x ≤ 64 := by omega
  obtain ⟨i0, hi, hz0, hz1, hz2⟩ := info_parts info3
  have HI0 := Aside0.mk hi
  have HZ := Aside0.mk (show i0.zero = some (.int .i64 0) ∧ i0.size = 1 ∧ i0.bytes = 8 from ⟨hz0, hz1, hz2⟩)
  obtain ⟨L, hL⟩ : ∃ L, (nums cur).length = L := ⟨_, rfl⟩
  have hL0 : L = 0 := by rw [← hL, hcur]; rfl
  have HCC := Aside0.mk hC
  have HL := Aside0.mk hL
  have HL0 := Aside0.mk hL0
  have HNL := Aside0.mk (show ((nums cur).map (Value.int .i64)).length = L * 1 by rw [List.length_map, hL, Nat.mul_one])
  have HNONE := Aside0.mk (show A = none → L = 0 ∧ L = 0 from fun _ => ⟨hL0, hL0⟩)
  rw [hL] at hcap ⊢
  have hLz : ¬ (0 : Int) < (L : Int) := by omega
  have hLc : (L : Int) ≤ (c : Int) := by omega
  clear hb ht h62 hb2 hb2l hi hz0 hz1 hz2 hC hcur hL hL0
  go_enter Try.func52, Try.ntmps52
  go_wp2
  obtain ⟨W0, hW0⟩ : ∃ W0, (W.alloc (.cells #[.int .i64 (n : Int), .slice A L c, .int .i64 (t : Int), .int .i64 (s : Int)] 59)).alloc (.cells #[.int .i64 0, .slice none 0 0, .int .i64 0, .int .i64 0] 59) = W0 := ⟨_, rfl⟩
  rw [hW0]
  obtain ⟨⟨q0, q1, q2, q3, f1, f2, f3⟩, hsz, hbl, hob⟩ := sbox_new W _ _ _ _ _ _ W0 hW0
  have HSZ := Aside0.mk hsz
  have HBL := Aside0.mk hbl
  have HOB := Aside0.mk hob
  have HBQ := Aside0.mk (Below.setCell (p := ⟨W.heap.size, 2, none⟩) hbl (Nat.le_refl _) (.int .i64 (b2 : Int)))
  have HNEW := Aside0.mk (show (((W0.setCell ⟨W.heap.size, 2, none⟩ (.int .i64 (b2 : Int))).alloc (.cells #[.int .i64 (x : Int)] 3)).drew.drew).cell? ((⟨W0.heap.size, 0, none⟩ : Addr).add 0) = some (.int .i64 (x : Int)) from by
    have h := (new_cell (W0.setCell ⟨W.heap.size, 2, none⟩ (.int .i64 (b2 : Int))) (.int .i64 (x : Int)) 3).1
    have e : (W0.setCell ⟨W.heap.size, 2, none⟩ (.int .i64 (b2 : Int))).heap.size = W0.heap.size := by simp [World.setCell]
    rw [e] at h
    exact h)
  have Q0 := Aside0.mk q0
  have Q1 := Aside0.mk q1
  have Q2 := Aside0.mk q2
  have Q3 := Aside0.mk q3
  have F1 := Aside0.mk f1
  have F3 := Aside0.mk f3
  have HSQ := Aside0.mk (show (W0.setCell ⟨W.heap.size, 2, none⟩ (.int .i64 (b2 : Int))).heap.size = W0.heap.size from by simp [World.setCell])
  have HS1 := Aside0.mk (show W.heap.size + 1 < W0.heap.size by omega)
  have HROW := Aside0.mk (show (((nums cur).map (Value.int .i64)) ++ [Value.int .i64 (x : Int)]) = (nums (cur ++ [x])).map (Value.int .i64) by rw [nums_snoc]; simp)
  have HLEN := Aside0.mk (show L + 1 = (nums (cur ++ [x])).length by rw [nums_snoc, List.length_append, HL.out]; rfl)
  clear hW0 hsz hbl hob
  go_still_tail 6, (by kernel_rfl)
  go_wp2_with (((with_reducible refine gate_builtin (b := .append) (xs := #[.tmp 58, .tmp 60]) rfl ?_); at_builtin; refine wpList_append_grows _ rfl _ _ 27 rfl 3 i0 (.int .i64 0) 1 8 Try.underlying27 HI0.out HZ.out.1 HZ.out.2.1 HZ.out.2.2 rfl (by decide) _ L L ((nums cur).map (Value.int .i64)) rfl HNONE.out HNL.out ?hcb ⟨W0.heap.size, 0, none⟩ 1 1 [.int .i64 (x : Int)] rfl rfl ?c1 ?c2 (by omega) ?c3 ?c4 ?_; (case hcb => exact nums_cells (Kd.C_below HCC.out (by repeat (first | exact HBQ.out | apply below_alloc | apply pw_below_drewN | apply below_drew1)))); (case c1 => intro j u hu; cases j with
    | zero => simp only [List.getElem?_cons_zero, Option.some.injEq] at hu; subst hu; exact HNEW.out
    | succ j => simp at hu); (case c2 => intro u hu; rw [List.mem_singleton] at hu; subst hu; rfl); (case c3 => simp only [maxLen]; omega); (case c4 => omega); intro v5 w5 ho5 hg5; rw [HROW.out] at ho5; have ho6 := ho5; rw [HLEN.out] at ho6; have hR5 := R_fresh ho6; obtain ⟨A5, c5, e5⟩ := Kd.R_slice hR5; subst e5; rw [← HLEN.out] at hR5 ⊢; have hR6 := Kd.R_lower (base' := W.heap.size + 2) hR5 (by simp [World.setCell]; have := HSZ.out; omega); have HR5 := Aside0.mk hR6; have hb5 : Below (W0.setCell ⟨W.heap.size, 2, none⟩ (.int .i64 (b2 : Int))).heap.size (W0.setCell ⟨W.heap.size, 2, none⟩ (.int .i64 (b2 : Int))) w5 := Below.grown (by repeat (first | exact Below.refl _ _ | apply below_alloc | apply pw_below_drewN | apply below_drew1)) hg5 (by simp) (fun k e => by cases e); rw [HSQ.out] at hb5; have HB5 := Aside0.mk hb5; obtain ⟨k0, k1, k2, k3, g1, g3, ko⟩ := sbox_put Q0.out Q1.out Q2.out Q3.out F1.out F3.out HS1.out HOB.out hb5; obtain ⟨m0, m1, m2, m3⟩ := four_cells ko; have z0 := frozen_cells (i := 0) ko; have z1 := frozen_cells (i := 1) ko; have z2 := frozen_cells (i := 2) ko; have z3 := frozen_cells (i := 3) ko; have M := Aside0.mk (four_put (w5.setCell ⟨W.heap.size, 1, none⟩ (.slice A5 (L + 1) c5)) (W.heap.size + 1) (.int .i64 (n : Int)) (.slice A5 (L + 1) c5) (.int .i64 (b2 : Int)) (.int .i64 (s : Int)) (four_some w5 _ _ _ (by simp only [ne_eq]; omega) ko)); clear ho5 ho6 hR5 hR6 hb5 hg5 ko q0 q1 q2 q3 f1 f2 f3))
  refine bodyPost_ret (results_srch rfl _ _ (W.heap.size + 1) _ _ _ _ _ rfl rfl M.out.1 M.out.2.1 M.out.2.2.1 M.out.2.2.2) rfl ?_
  have hB5 : Below W.heap.size W w5 := HBQ.out.trans (HB5.out.mono (by have := HSZ.out; omega))
  refine ⟨(((((hB5.setCell (p := ⟨W.heap.size, 1, none⟩) (Nat.le_refl _) _).setCell (p := ⟨W.heap.size + 1, 0, none⟩) (Nat.le_succ _) _).setCell (p := ⟨W.heap.size + 1, 1, none⟩) (Nat.le_succ _) _).setCell (p := ⟨W.heap.size + 1, 2, none⟩) (Nat.le_succ _) _).setCell (p := ⟨W.heap.size + 1, 3, none⟩) (Nat.le_succ _) _), A5, c5, by rw [← HLEN.out]; rfl, ?_⟩
  rw [← HLEN.out]
  exact R_sets HR5.out (Nat.le_refl _) _ _ _ _ _
set_option maxHeartbeats 8000000 in
set_option maxRecDepth 100000 in
theorem add_stephas {n : Nat} {cur : List Nat} {t s x y st : Nat} {A : Option Addr} {c : Nat} {W : World} (hn : 1 ≤ n) (hn2 : n ≤ 40) (hx : x < n) (ht : t < 2 ^ n) (hb : t.testBit x = false) (hs : s < 2 ^ n) (hlast : cur.getLast? = some y) (hy : y < n) (hle : cur.length ≤ 1000) (hst : (x + n - y) % n = st) (hbs : s.testBit st = true) (hC : Kd.C (Kd.int .i64) W A (nums cur).length (nums cur)) (hcap : (nums cur).length ≤ c) :
    Calls Try.prog 52 #[.agg #[.int .i64 (n : Int), .slice A (nums cur).length c, .int .i64 (t : Int), .int .i64 (s : Int)], .int .i64 (x : Int)] W (AddPost n cur x W none) := by
  have h62 : 2 ^ n < 2 ^ 63 := Nat.pow_lt_pow_right (by omega) (by omega)
  obtain ⟨sh, hsh, hbit⟩ := bit_div (a := t) (x := x) (Nat.lt_trans ht h62) (by omega)
  rw [hb, if_neg (by decide)] at hbit
  have hx64 : x ≤ 64 := by omega
  obtain ⟨i0, hi, hz0, hz1, hz2⟩ := info_parts info3
  have HI0 := Aside0.mk hi
  have HZ := Aside0.mk (show i0.zero = some (.int .i64 0) ∧ i0.size = 1 ∧ i0.bytes = 8 from ⟨hz0, hz1, hz2⟩)
  obtain ⟨L, hL⟩ : ∃ L, (nums cur).length = L := ⟨_, rfl⟩
  have hne : cur ≠ [] := by intro e; rw [e] at hlast; cases hlast
  have hL0 : 1 ≤ L := by rw [← hL, nums_length]; exact List.length_pos_iff.2 hne
  have HCC := Aside0.mk hC
  have HL := Aside0.mk hL
  have HL0 := Aside0.mk hL0
  have HNL := Aside0.mk (show ((nums cur).map (Value.int .i64)).length = L * 1 by rw [List.length_map, hL, Nat.mul_one])
  have HNONE := Aside0.mk (show A = none → L = 0 ∧ L = 0 from fun e => by
    obtain ⟨ad, e2, _⟩ := Kd.at_int hC 0 (by omega) (by omega)
    rw [e] at e2; cases e2)
  rw [hL] at hcap ⊢
  have hLz : (0 : Int) < (L : Int) := by omega
  have hstl : st < n := by rw [← hst]; exact Nat.mod_lt _ (by omega)
  have hmod : rows_mod.f ((x : Int) - (y : Int)) (n : Int) = some (st : Int) := by
    rw [rows_mod_f (by omega) (by omega)]
    congr 1
    have e1 : ((x : Int) - (y : Int)) % (n : Int) = (((x + n - y : Nat) : Int)) % (n : Int) := by
      rw [show ((x + n - y : Nat) : Int) = ((x : Int) - (y : Int)) + (n : Int) by omega, Int.add_emod_right]
    rw [e1, ← Int.natCast_emod, hst]
  have HMOD := Aside0.mk hmod
  obtain ⟨ad, hA, hcellY⟩ := Kd.at_int hC ((L : Int) - 1) (by omega) (by omega)
  have HLAST := Aside0.mk (show W.cell? (ad.add (L - 1)) = some (.int .i64 (y : Int)) from by
    have e2 : ((L : Int) - 1).toNat = L - 1 := by omega
    have hlen : cur.length = L := by rw [← nums_length]; exact hL
    rw [e2, show (L : Int) - 1 = ((L - 1 : Nat) : Int) by omega, nums_get (by omega)] at hcellY
    rw [hcellY]
    rw [List.getLast?_eq_getElem?] at hlast
    have e3 := (List.getElem?_eq_some_iff.1 hlast).2
    simp only [hlen] at e3
    rw [e3])
  have HADB := Aside0.mk (show ad.block < W.heap.size from by have := World.block_lt_of_cell? W _ HLAST.out; rwa [add_block_] at this)
  obtain ⟨sh3, hsh3, hbit3⟩ := bit_div (a := s) (x := st) (Nat.lt_trans hs h62) (by omega)
  rw [hbs] at hbit3
  have hst64 : st ≤ 64 := by omega
  subst hA
  have hLc : (L : Int) ≤ (c : Int) := by omega
  clear hb ht h62 hi hz0 hz1 hz2 hC hL hL0 hlast hst hbs hs hne hcellY hmod
  go_enter Try.func52, Try.ntmps52
  go_wp2
  obtain ⟨W0, hW0⟩ : ∃ W0, (W.alloc (.cells #[.int .i64 (n : Int), .slice (some ad) L c, .int .i64 (t : Int), .int .i64 (s : Int)] 59)).alloc (.cells #[.int .i64 0, .slice none 0 0, .int .i64 0, .int .i64 0] 59) = W0 := ⟨_, rfl⟩
  rw [hW0]
  obtain ⟨⟨q0, q1, q2, q3, f1, f2, f3⟩, hsz, hbl, hob⟩ := sbox_new W _ _ _ _ _ _ W0 hW0
  have HSZ := Aside0.mk hsz
  have HBL := Aside0.mk hbl
  have HOB := Aside0.mk hob
  have Q0 := Aside0.mk q0
  have Q1 := Aside0.mk q1
  have Q2 := Aside0.mk q2
  have Q3 := Aside0.mk q3
  have F1 := Aside0.mk f1
  have F2 := Aside0.mk f2
  have F3 := Aside0.mk f3
  have HS1 := Aside0.mk (show W.heap.size + 1 < W0.heap.size by omega)
  clear hW0 hsz hbl hob
  obtain ⟨l1, hl1⟩ : ∃ l1 : Nat, L - 1 = l1 := ⟨_, rfl⟩
  have qy := (HBL.out.cell (p := ad.add (L - 1)) (by rw [add_block_]; exact HADB.out)).trans HLAST.out
  rw [hl1] at qy
  have hle2 : L ≤ 1000 := by rw [← HL.out, nums_length]; exact hle
  have wl : IntKind.i64.wrap ((L : Int) - 1) = (l1 : Int) := by rw [i64_id (by omega) (by omega)]; omega
  have wl2 : wrap64 ((L : Int) - 1) = (l1 : Int) := by rw [wrap_id (by omega) (by omega)]; omega
  have wd : IntKind.i64.wrap ((x : Int) - (y : Int)) = (x : Int) - (y : Int) := i64_id (by omega) (by omega)
  have wd2 : wrap64 ((x : Int) - (y : Int)) = (x : Int) - (y : Int) := wrap_id (by omega) (by omega)
  have hl1L : (l1 : Int) < (L : Int) := by omega
  have hl10 : (0 : Int) ≤ (l1 : Int) := by omega
  clear hl1
  have hsh4 := hsh3
  have hb4 := hbit3
  have h644 := hst64
  go_still_tail 10, (by kernel_rfl)
  go_wp2_with fail
  refine (rows_mod.calls _ _ (st : Int) _ HMOD.out).mono ?_
  rintro e w2 ⟨rfl, hd⟩
  obtain ⟨q, rfl⟩ := hd
  have k0 : (W0.drew.drewN q).cell? ⟨W.heap.size, 0, none⟩ = some (.int .i64 (n : Int)) := Q0.out
  have k1 : (W0.drew.drewN q).cell? ⟨W.heap.size, 1, none⟩ = some (.slice (some ad) L c) := Q1.out
  have k2 : (W0.drew.drewN q).cell? ⟨W.heap.size, 2, none⟩ = some (.int .i64 (t : Int)) := Q2.out
  have k3 : (W0.drew.drewN q).cell? ⟨W.heap.size, 3, none⟩ = some (.int .i64 (s : Int)) := Q3.out
  have hf : ∀ i, (W0.drew.drewN q).frozen? ⟨W.heap.size, i, none⟩ = W0.frozen? ⟨W.heap.size, i, none⟩ := fun _ => rfl
  have g1 := (hf 1).trans F1.out
  have g2 := (hf 2).trans F2.out
  have g3 := (hf 3).trans F3.out
  have hbw : Below W.heap.size W (W0.drew.drewN q) := pw_below_drewN (below_drew1 HBL.out) q
  have hob2 : (W0.drew.drewN q).heap[W.heap.size + 1]? = _ := HOB.out
  have hsz2 : (W0.drew.drewN q).heap.size = W.heap.size + 2 := HSZ.out
  generalize W0.drew.drewN q = w2 at k0 k1 k2 k3 g1 g2 g3 hf hbw hob2 hsz2 ⊢
  clear hf q0 q1 q2 q3 f1 f2 f3 qy
  obtain ⟨m0, m1, m2, m3⟩ := four_cells hob2
  have z0 := frozen_cells (i := 0) hob2
  have z1 := frozen_cells (i := 1) hob2
  have z2 := frozen_cells (i := 2) hob2
  have z3 := frozen_cells (i := 3) hob2
  have M := Aside0.mk (four_put w2 (W.heap.size + 1) (.int .i64 (n : Int)) (.slice (some ad) L c) (.int .i64 (t : Int)) (.int .i64 (s : Int)) hob2)
  have HBW := Aside0.mk hbw
  clear hob2 hsz2 hbw
  go_wp2
  refine bodyPost_ret (results_srch rfl _ _ (W.heap.size + 1) _ _ _ _ _ rfl rfl M.out.1 M.out.2.1 M.out.2.2.1 M.out.2.2.2) rfl ?_
  exact ⟨((((HBW.out.setCell (p := ⟨W.heap.size + 1, 0, none⟩) (Nat.le_succ _) _).setCell (p := ⟨W.heap.size + 1, 1, none⟩) (Nat.le_succ _) _).setCell (p := ⟨W.heap.size + 1, 2, none⟩) (Nat.le_succ _) _).setCell (p := ⟨W.heap.size + 1, 3, none⟩) (Nat.le_succ _) _), _, _, _, _, _, rfl⟩
set_option maxHeartbeats 8000000 in
set_option maxRecDepth 100000 in
theorem add_step {n : Nat} {cur : List Nat} {t s x y st : Nat} {A : Option Addr} {c : Nat} {W : World} (hn : 1 ≤ n) (hn2 : n ≤ 40) (hx : x < n) (ht : t < 2 ^ n) (hb : t.testBit x = false) (hs : s < 2 ^ n) (hlast : cur.getLast? = some y) (hy : y < n) (hle : cur.length ≤ 1000) (hst : (x + n - y) % n = st) (hbs : s.testBit st = false) (hC : Kd.C (Kd.int .i64) W A (nums cur).length (nums cur)) (hcap : (nums cur).length ≤ c) :
    Calls Try.prog 52 #[.agg #[.int .i64 (n : Int), .slice A (nums cur).length c, .int .i64 (t : Int), .int .i64 (s : Int)], .int .i64 (x : Int)] W (AddPost n cur x W (some (t ||| 2 ^ x, s ||| 2 ^ st))) := by
  have h62 : 2 ^ n < 2 ^ 63 := Nat.pow_lt_pow_right (by omega) (by omega)
  obtain ⟨sh, hsh, hbit⟩ := bit_div (a := t) (x := x) (Nat.lt_trans ht h62) (by omega)
  rw [hb, if_neg (by decide)] at hbit
  obtain ⟨p2, b2, r1, r2, r3, hb2, hb2l⟩ := one_more (show n ≤ 62 by omega) ht hx
  rw [hb2]
  have hx64 : x ≤ 64 := by omega
  obtain ⟨i0, hi, hz0, hz1, hz2⟩ := info_parts info3
  have HI0 := Aside0.mk hi
  have HZ := Aside0.mk (show i0.zero = some (.int .i64 0) ∧ i0.size = 1 ∧ i0.bytes = 8 from ⟨hz0, hz1, hz2⟩)
  obtain ⟨L, hL⟩ : ∃ L, (nums cur).length = L := ⟨_, rfl⟩
  have hne : cur ≠ [] := by intro e; rw [e] at hlast; cases hlast
  have hL0 : 1 ≤ L := by rw [← hL, nums_length]; exact List.length_pos_iff.2 hne
  have HCC := Aside0.mk hC
  have HL := Aside0.mk hL
  have HL0 := Aside0.mk hL0
  have HNL := Aside0.mk (show ((nums cur).map (Value.int .i64)).length = L * 1 by rw [List.length_map, hL, Nat.mul_one])
  have HNONE := Aside0.mk (show A = none → L = 0 ∧ L = 0 from fun e => by
    obtain ⟨ad, e2, _⟩ := Kd.at_int hC 0 (by omega) (by omega)
    rw [e] at e2; cases e2)
  rw [hL] at hcap ⊢
  have hLz : (0 : Int) < (L : Int) := by omega
  have hstl : st < n := by rw [← hst]; exact Nat.mod_lt _ (by omega)
  have hmod : rows_mod.f ((x : Int) - (y : Int)) (n : Int) = some (st : Int) := by
    rw [rows_mod_f (by omega) (by omega)]
    congr 1
    have e1 : ((x : Int) - (y : Int)) % (n : Int) = (((x + n - y : Nat) : Int)) % (n : Int) := by
      rw [show ((x + n - y : Nat) : Int) = ((x : Int) - (y : Int)) + (n : Int) by omega, Int.add_emod_right]
    rw [e1, ← Int.natCast_emod, hst]
  have HMOD := Aside0.mk hmod
  obtain ⟨ad, hA, hcellY⟩ := Kd.at_int hC ((L : Int) - 1) (by omega) (by omega)
  have HLAST := Aside0.mk (show W.cell? (ad.add (L - 1)) = some (.int .i64 (y : Int)) from by
    have e2 : ((L : Int) - 1).toNat = L - 1 := by omega
    have hlen : cur.length = L := by rw [← nums_length]; exact hL
    rw [e2, show (L : Int) - 1 = ((L - 1 : Nat) : Int) by omega, nums_get (by omega)] at hcellY
    rw [hcellY]
    rw [List.getLast?_eq_getElem?] at hlast
    have e3 := (List.getElem?_eq_some_iff.1 hlast).2
    simp only [hlen] at e3
    rw [e3])
  have HADB := Aside0.mk (show ad.block < W.heap.size from by have := World.block_lt_of_cell? W _ HLAST.out; rwa [add_block_] at this)
  obtain ⟨sh3, hsh3, hbit3⟩ := bit_div (a := s) (x := st) (Nat.lt_trans hs h62) (by omega)
  rw [hbs] at hbit3
  have hst64 : st ≤ 64 := by omega
  obtain ⟨p3, b3, y1, y2, y3, hb3, hb3l⟩ := one_more (show n ≤ 62 by omega) hs hstl
  rw [hb3]
  subst hA
  have hLc : (L : Int) ≤ (c : Int) := by omega
  clear hb ht h62 hb2 hb2l hi hz0 hz1 hz2 hC hL hL0 hlast hst hbs hs hne hcellY hmod hb3 hb3l
  go_enter Try.func52, Try.ntmps52
  go_wp2
  obtain ⟨W0, hW0⟩ : ∃ W0, (W.alloc (.cells #[.int .i64 (n : Int), .slice (some ad) L c, .int .i64 (t : Int), .int .i64 (s : Int)] 59)).alloc (.cells #[.int .i64 0, .slice none 0 0, .int .i64 0, .int .i64 0] 59) = W0 := ⟨_, rfl⟩
  rw [hW0]
  obtain ⟨⟨q0, q1, q2, q3, f1, f2, f3⟩, hsz, hbl, hob⟩ := sbox_new W _ _ _ _ _ _ W0 hW0
  have HSZ := Aside0.mk hsz
  have HBL := Aside0.mk hbl
  have HOB := Aside0.mk hob
  have Q0 := Aside0.mk q0
  have Q1 := Aside0.mk q1
  have Q2 := Aside0.mk q2
  have Q3 := Aside0.mk q3
  have F1 := Aside0.mk f1
  have F2 := Aside0.mk f2
  have F3 := Aside0.mk f3
  clear hW0 hsz hbl hob
  obtain ⟨l1, hl1⟩ : ∃ l1 : Nat, L - 1 = l1 := ⟨_, rfl⟩
  have qy := (HBL.out.cell (p := ad.add (L - 1)) (by rw [add_block_]; exact HADB.out)).trans HLAST.out
  rw [hl1] at qy
  have hle2 : L ≤ 1000 := by rw [← HL.out, nums_length]; exact hle
  have wl : IntKind.i64.wrap ((L : Int) - 1) = (l1 : Int) := by rw [i64_id (by omega) (by omega)]; omega
  have wl2 : wrap64 ((L : Int) - 1) = (l1 : Int) := by rw [wrap_id (by omega) (by omega)]; omega
  have wd : IntKind.i64.wrap ((x : Int) - (y : Int)) = (x : Int) - (y : Int) := i64_id (by omega) (by omega)
  have wd2 : wrap64 ((x : Int) - (y : Int)) = (x : Int) - (y : Int) := wrap_id (by omega) (by omega)
  have hl1L : (l1 : Int) < (L : Int) := by omega
  have hl10 : (0 : Int) ≤ (l1 : Int) := by omega
  clear hl1
  have hsh4 := hsh3
  have hb4 := hbit3
  have h644 := hst64
  go_still_tail 10, (by kernel_rfl)
  go_wp2_with fail
  refine (rows_mod.calls _ _ (st : Int) _ HMOD.out).mono ?_
  rintro e w2 ⟨rfl, hd⟩
  obtain ⟨q, rfl⟩ := hd
  have k0 : (W0.drew.drewN q).cell? ⟨W.heap.size, 0, none⟩ = some (.int .i64 (n : Int)) := Q0.out
  have k1 : (W0.drew.drewN q).cell? ⟨W.heap.size, 1, none⟩ = some (.slice (some ad) L c) := Q1.out
  have k2 : (W0.drew.drewN q).cell? ⟨W.heap.size, 2, none⟩ = some (.int .i64 (t : Int)) := Q2.out
  have k3 : (W0.drew.drewN q).cell? ⟨W.heap.size, 3, none⟩ = some (.int .i64 (s : Int)) := Q3.out
  have hf : ∀ i, (W0.drew.drewN q).frozen? ⟨W.heap.size, i, none⟩ = W0.frozen? ⟨W.heap.size, i, none⟩ := fun _ => rfl
  have g1 := (hf 1).trans F1.out
  have g2 := (hf 2).trans F2.out
  have g3 := (hf 3).trans F3.out
  have hbw : Below W.heap.size W (W0.drew.drewN q) := pw_below_drewN (below_drew1 HBL.out) q
  have hob2 : (W0.drew.drewN q).heap[W.heap.size + 1]? = _ := HOB.out
  have hsz2 : (W0.drew.drewN q).heap.size = W.heap.size + 2 := HSZ.out
  generalize W0.drew.drewN q = w2 at k0 k1 k2 k3 g1 g2 g3 hf hbw hob2 hsz2 ⊢
  clear hf q0 q1 q2 q3 f1 f2 f3 qy
  obtain ⟨m0, m1, m2, m3⟩ := four_cells hob2
  have z0 := frozen_cells (i := 0) hob2
  have z1 := frozen_cells (i := 1) hob2
  have z2 := frozen_cells (i := 2) hob2
  have z3 := frozen_cells (i := 3) hob2
  have HBW := Aside0.mk hbw
  have HOB2 := Aside0.mk hob2
  have HSZ2 := Aside0.mk hsz2
  clear hob2 hsz2 hbw
  go_wp2
  go_still_tail 6, (by kernel_rfl)
  go_wp2
  have ne : ∀ j, j ≠ 3 → (⟨W.heap.size, 3, none⟩ : Addr) ≠ ⟨W.heap.size, j, none⟩ := fun j hj e => hj (by injection e with _ e; exact e.symm)
  clear HSZ HBL HOB Q0 Q1 Q2 Q3 F1 F2 F3 m0 m1 m2 m3 z0 z1 z2 z3
  have q0 : (w2.setCell ⟨W.heap.size, 3, none⟩ (.int .i64 (b3 : Int))).drew.cell? ⟨W.heap.size, 0, none⟩ = some (.int .i64 (n : Int)) := (World.cell?_setCell_other _ _ _ _ (ne 0 (by decide))).trans k0
  have q1 : (w2.setCell ⟨W.heap.size, 3, none⟩ (.int .i64 (b3 : Int))).drew.cell? ⟨W.heap.size, 1, none⟩ = some (.slice (some ad) L c) := (World.cell?_setCell_other _ _ _ _ (ne 1 (by decide))).trans k1
  have q2 : (w2.setCell ⟨W.heap.size, 3, none⟩ (.int .i64 (b3 : Int))).drew.cell? ⟨W.heap.size, 2, none⟩ = some (.int .i64 (t : Int)) := (World.cell?_setCell_other _ _ _ _ (ne 2 (by decide))).trans k2
  have q3 : (w2.setCell ⟨W.heap.size, 3, none⟩ (.int .i64 (b3 : Int))).drew.cell? ⟨W.heap.size, 3, none⟩ = some (.int .i64 (b3 : Int)) := World.cell?_setCell_same' _ _ _ (by rw [k3]; rfl)
  have f1 : (w2.setCell ⟨W.heap.size, 3, none⟩ (.int .i64 (b3 : Int))).drew.frozen? ⟨W.heap.size, 1, none⟩ = false := (World.frozen?_setCell _ _ _ _).trans g1
  have f2 : (w2.setCell ⟨W.heap.size, 3, none⟩ (.int .i64 (b3 : Int))).drew.frozen? ⟨W.heap.size, 2, none⟩ = false := (World.frozen?_setCell _ _ _ _).trans g2
  have f3 : (w2.setCell ⟨W.heap.size, 3, none⟩ (.int .i64 (b3 : Int))).drew.frozen? ⟨W.heap.size, 3, none⟩ = false := (World.frozen?_setCell _ _ _ _).trans g3
  have hbl : Below W.heap.size W (w2.setCell ⟨W.heap.size, 3, none⟩ (.int .i64 (b3 : Int))).drew := below_drew1 (HBW.out.setCell (p := ⟨W.heap.size, 3, none⟩) (Nat.le_refl _) _)
  have hsz : (w2.setCell ⟨W.heap.size, 3, none⟩ (.int .i64 (b3 : Int))).drew.heap.size = W.heap.size + 2 := by simp [World.setCell]; exact HSZ2.out
  have hob : (w2.setCell ⟨W.heap.size, 3, none⟩ (.int .i64 (b3 : Int))).drew.heap[W.heap.size + 1]? = _ := (Below.heap_setCell _ _ _ _ (by simp only [ne_eq]; omega)).trans HOB2.out
  clear HSZ2 HOB2 HBW k0 k1 k2 k3 g1 g2 g3
  generalize (w2.setCell ⟨W.heap.size, 3, none⟩ (.int .i64 (b3 : Int))).drew = W0 at q0 q1 q2 q3 f1 f2 f3 hbl hsz hob ⊢
  have HSZ := Aside0.mk hsz
  have HBL := Aside0.mk hbl
  have HOB := Aside0.mk hob
  have HBQ := Aside0.mk (Below.setCell (p := ⟨W.heap.size, 2, none⟩) hbl (Nat.le_refl _) (.int .i64 (b2 : Int)))
  have HNEW := Aside0.mk (show (((W0.setCell ⟨W.heap.size, 2, none⟩ (.int .i64 (b2 : Int))).alloc (.cells #[.int .i64 (x : Int)] 3)).drew.drew).cell? ((⟨W0.heap.size, 0, none⟩ : Addr).add 0) = some (.int .i64 (x : Int)) from by
    have h := (new_cell (W0.setCell ⟨W.heap.size, 2, none⟩ (.int .i64 (b2 : Int))) (.int .i64 (x : Int)) 3).1
    have e : (W0.setCell ⟨W.heap.size, 2, none⟩ (.int .i64 (b2 : Int))).heap.size = W0.heap.size := by simp [World.setCell]
    rw [e] at h
    exact h)
  have Q0 := Aside0.mk q0
  have Q1 := Aside0.mk q1
  have Q2 := Aside0.mk q2
  have Q3 := Aside0.mk q3
  have F1 := Aside0.mk f1
  have F3 := Aside0.mk f3
  have HSQ := Aside0.mk (show (W0.setCell ⟨W.heap.size, 2, none⟩ (.int .i64 (b2 : Int))).heap.size = W0.heap.size from by simp [World.setCell])
  have HS1 := Aside0.mk (show W.heap.size + 1 < W0.heap.size by omega)
  have HROW := Aside0.mk (show (((nums cur).map (Value.int .i64)) ++ [Value.int .i64 (x : Int)]) = (nums (cur ++ [x])).map (Value.int .i64) by rw [nums_snoc]; simp)
  have HLEN := Aside0.mk (show L + 1 = (nums (cur ++ [x])).length by rw [nums_snoc, List.length_append, HL.out]; rfl)
  clear hsz hbl hob
  go_still_tail 6, (by kernel_rfl)
  go_wp2_with (((with_reducible refine gate_builtin (b := .append) (xs := #[.tmp 58, .tmp 60]) rfl ?_); at_builtin; refine wpList_append_grows _ rfl _ _ 27 rfl 3 i0 (.int .i64 0) 1 8 Try.underlying27 HI0.out HZ.out.1 HZ.out.2.1 HZ.out.2.2 rfl (by decide) _ L L ((nums cur).map (Value.int .i64)) rfl HNONE.out HNL.out ?hcb ⟨W0.heap.size, 0, none⟩ 1 1 [.int .i64 (x : Int)] rfl rfl ?c1 ?c2 (by omega) ?c3 ?c4 ?_; (case hcb => exact nums_cells (Kd.C_below HCC.out (by repeat (first | exact HBQ.out | apply below_alloc | apply pw_below_drewN | apply below_drew1)))); (case c1 => intro j u hu; cases j with
    | zero => simp only [List.getElem?_cons_zero, Option.some.injEq] at hu; subst hu; exact HNEW.out
    | succ j => simp at hu); (case c2 => intro u hu; rw [List.mem_singleton] at hu; subst hu; rfl); (case c3 => simp only [maxLen]; omega); (case c4 => omega); intro v5 w5 ho5 hg5; rw [HROW.out] at ho5; have ho6 := ho5; rw [HLEN.out] at ho6; have hR5 := R_fresh ho6; obtain ⟨A5, c5, e5⟩ := Kd.R_slice hR5; subst e5; rw [← HLEN.out] at hR5 ⊢; have hR6 := Kd.R_lower (base' := W.heap.size + 2) hR5 (by simp [World.setCell]; have := HSZ.out; omega); have HR5 := Aside0.mk hR6; have hb5 : Below (W0.setCell ⟨W.heap.size, 2, none⟩ (.int .i64 (b2 : Int))).heap.size (W0.setCell ⟨W.heap.size, 2, none⟩ (.int .i64 (b2 : Int))) w5 := Below.grown (by repeat (first | exact Below.refl _ _ | apply below_alloc | apply pw_below_drewN | apply below_drew1)) hg5 (by simp) (fun k e => by cases e); rw [HSQ.out] at hb5; have HB5 := Aside0.mk hb5; obtain ⟨k0, k1, k2, k3, g1, g3, ko⟩ := sbox_put Q0.out Q1.out Q2.out Q3.out F1.out F3.out HS1.out HOB.out hb5; obtain ⟨m0, m1, m2, m3⟩ := four_cells ko; have z0 := frozen_cells (i := 0) ko; have z1 := frozen_cells (i := 1) ko; have z2 := frozen_cells (i := 2) ko; have z3 := frozen_cells (i := 3) ko; have M := Aside0.mk (four_put (w5.setCell ⟨W.heap.size, 1, none⟩ (.slice A5 (L + 1) c5)) (W.heap.size + 1) (.int .i64 (n : Int)) (.slice A5 (L + 1) c5) (.int .i64 (b2 : Int)) (.int .i64 (b3 : Int)) (four_some w5 _ _ _ (by simp only [ne_eq]; omega) ko)); clear ho5 ho6 hR5 hR6 hb5 hg5 ko q0 q1 q2 q3 f1 f2 f3))
  refine bodyPost_ret (results_srch rfl _ _ (W.heap.size + 1) _ _ _ _ _ rfl rfl M.out.1 M.out.2.1 M.out.2.2.1 M.out.2.2.2) rfl ?_
  have hB5 : Below W.heap.size W w5 := HBQ.out.trans (HB5.out.mono (by have := HSZ.out; omega))
  refine ⟨(((((hB5.setCell (p := ⟨W.heap.size, 1, none⟩) (Nat.le_refl _) _).setCell (p := ⟨W.heap.size + 1, 0, none⟩) (Nat.le_succ _) _).setCell (p := ⟨W.heap.size + 1, 1, none⟩) (Nat.le_succ _) _).setCell (p := ⟨W.heap.size + 1, 2, none⟩) (Nat.le_succ _) _).setCell (p := ⟨W.heap.size + 1, 3, none⟩) (Nat.le_succ _) _), A5, c5, by rw [← HLEN.out]; rfl, ?_⟩
  rw [← HLEN.out]
  exact R_sets HR5.out (Nat.le_refl _) _ _ _ _ _
theorem add_calls {n : Nat} {cur : List Nat} {t s x : Nat} {A : Option Addr} {c : Nat} {W : World} (hn : 1 ≤ n) (hn2 : n ≤ 40) (hx : x < n) (ht : t < 2 ^ n) (hs : s < 2 ^ n) (hcur : ∀ y ∈ cur, y < n) (hle : cur.length ≤ 1000) (hC : Kd.C (Kd.int .i64) W A (nums cur).length (nums cur)) (hcap : (nums cur).length ≤ c) :
    Calls Try.prog 52 #[.agg #[.int .i64 (n : Int), .slice A (nums cur).length c, .int .i64 (t : Int), .int .i64 (s : Int)], .int .i64 (x : Int)] W (AddPost n cur x W (addS n cur t s x)) := by
  unfold addS
  cases hb : t.testBit x with
  | true => rw [if_pos rfl]; exact add_has hn hn2 hx ht hb
  | false =>
    rw [if_neg (by decide)]
    cases hl : cur.getLast? with
    | none => exact add_first hn hn2 hx ht hb (List.getLast?_eq_none_iff.1 hl) hC hcap
    | some y =>
      have hy := hcur y (List.mem_of_getLast? hl)
      obtain ⟨st, hst⟩ : ∃ st, (x + n - y) % n = st := ⟨_, rfl⟩
      simp only [hst]
      cases hbs : s.testBit st with
      | true => rw [if_pos rfl]; exact add_stephas hn hn2 hx ht hb hs hl hy hle hst hbs hC hcap
      | false => rw [if_neg (by decide)]; exact add_step hn hn2 hx ht hb hs hl hy hle hst hbs hC hcap
theorem addS_lt {n : Nat} {cur : List Nat} {t s x t' s' : Nat} (hx : x < n) (ht : t < 2 ^ n) (hs : s < 2 ^ n) (h : addS n cur t s x = some (t', s')) : t' < 2 ^ n ∧ s' < 2 ^ n := by
  have hp : 2 ^ x < 2 ^ n := Nat.pow_lt_pow_right (by omega) hx
  unfold addS at h
  split at h
  · cases h
  · split at h
    · cases h; exact ⟨Nat.or_lt_two_pow ht hp, hs⟩
    · split at h
      · cases h
      · cases h
        exact ⟨Nat.or_lt_two_pow ht hp, Nat.or_lt_two_pow hs (Nat.pow_lt_pow_right (by omega) (Nat.mod_lt _ (by omega)))⟩

end Go.Proofs.Ytknchioabngbiaa.P
