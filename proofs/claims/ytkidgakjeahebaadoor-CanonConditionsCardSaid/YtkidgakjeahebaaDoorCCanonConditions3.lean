/- A part of a proof that a law's Go function returns true for every input, laid by this session's program mp.py (which drives the kit's print). Conditions: as each theorem states them. -/
import Derived.StillTailTactics
import Derived.Sort.QuietIn
import Derived.Laws.EntriesVeiled
import Derived.Shelf.Abstract
import Derived.Lib.SliceRun
import Derived.Test.YtkidgakjeahebaaDoorCCanonConditions1
import Derived.Test.YtkidgakjeahebaaDoorCCanonConditions2
namespace Go.Proofs.YtkidgakjeahebaaDoor.P
open Go.RowKit Go.Proofs.YtkidgakjeahebaaDoorW.PrintWords Go.Proofs.YtkidgakjeahebaaDoorW.PrintLast Go.Proofs.YtkidgakjeahebaaDoorW.PrintMore
attribute [local go_sem] max2_int min2_int max_two min_two max_three min_three max_four min_four   -- for this text's walks alone
set_option linter.unusedVariables false
set_option linter.unusedSimpArgs false

/-! canon's partners: the first free beat is filled in each way -/
def KeepB (S : Nat) (w w' : World) : Prop := (∀ b, S ≤ b → b < S + 4 → w'.heap[b]? = w.heap[b]?) ∧ w'.heap[1]? = w.heap[1]?
theorem KeepB.refl (S : Nat) (w : World) : KeepB S w w := ⟨fun _ _ _ => rfl, rfl⟩
theorem KeepB.trans {S : Nat} {a b c : World} (h : KeepB S a b) (k : KeepB S b c) : KeepB S a c := ⟨fun i h1 h2 => (k.1 i h1 h2).trans (h.1 i h1 h2), k.2.trans h.2⟩
theorem KeepB.drew (S : Nat) (w : World) (q : Nat) : KeepB S w (w.drewN q) := ⟨fun _ _ _ => rfl, rfl⟩
structure Boxes4 (S n a g : Nat) (lb : Array Value) (w : World) : Prop where
  cn : w.cell? ⟨S, 0, none⟩ = some (.int .i64 (n : Int))
  ca : w.cell? ⟨S + 1, 0, none⟩ = some (.int .i64 (a : Int))
  cm : w.cell? ⟨S + 1 + 1, 0, none⟩ = some (.func (.func g) #[] lb)
  cf : w.cell? ⟨S + 1 + 1 + 1, 0, none⟩ = some (.func (.func 56) #[] #[.pointer (some ⟨S, 0, none⟩), .pointer (some ⟨S + 1 + 1, 0, none⟩), .pointer (some ⟨S + 1, 0, none⟩), .pointer (some ⟨S + 1 + 1 + 1, 0, none⟩)])
theorem Boxes4.keep {S n a g : Nat} {lb : Array Value} {w w' : World} (h : Boxes4 S n a g lb w) (k : KeepB S w w') : Boxes4 S n a g lb w' :=
  ⟨(cell_heap (k.1 _ (by omega) (by omega)) 0).trans h.cn, (cell_heap (k.1 _ (by omega) (by omega)) 0).trans h.ca, (cell_heap (k.1 _ (by omega) (by omega)) 0).trans h.cm, (cell_heap (k.1 _ (by omega) (by omega)) 0).trans h.cf⟩
def took (cont : Bool) (l : List Nat) : List Nat := if cont then l else l.take 1
def FillPost (S : Nat) (J : List Nat → World → Prop) (pre L : List Nat) (cont : Bool) (w : World) (e : Ending) (w' : World) : Prop :=
  e = .returned (.bool (cont || L.isEmpty)) ∧ J (pre ++ took cont L) w' ∧ KeepB S w w'
def visOne (n a d b F x : Nat) : List Nat := match stA n a (freeAt n F) x with
  | some k => if moveN n a k &&& F = 0 then vis n a (stA n a) d (b ||| 2 ^ k) (F ||| moveN n a k) else []
  | none => []
def visTo (n a d b F m : Nat) : List Nat := (List.range m).flatMap (visOne n a d b F)
theorem visTo_succ (n a d b F m : Nat) : visTo n a d b F (m + 1) = visTo n a d b F m ++ visOne n a d b F m := by unfold visTo; rw [List.range_succ]; simp
theorem vis_full {n a d b F : Nat} (h : F = 2 ^ n - 1) : vis n a (stA n a) (d + 1) b F = [b] := by simp only [vis]; rw [if_pos h]
theorem vis_more {n a d b F : Nat} (h : F ≠ 2 ^ n - 1) : vis n a (stA n a) (d + 1) b F = visTo n a d b F n := by simp only [vis]; rw [if_neg h]; rfl
theorem andNot_i64 {n F : Nat} (hn : n ≤ 24) (hF : F < 2 ^ n) : Go.bits .andNot .i64 ((2 ^ n - 1 : Nat) : Int) (F : Int) = (compl n F : Int) := by
  have hp : 2 ^ n ≤ 2 ^ 24 := Nat.pow_le_pow_right (by omega) hn
  have h24 : (2 : Nat) ^ 24 = 16777216 := by decide
  have h0 := Nat.two_pow_pos n
  have hb : IntKind.i64.bits = 64 := rfl
  have h64 : (2 : Nat) ^ 64 = 18446744073709551616 := by decide
  simp only [Go.bits, BitVec.ofInt_natCast, BitVec.toNat_and, BitVec.toNat_not, BitVec.toNat_ofNat, hb]
  rw [Nat.mod_eq_of_lt (show 2 ^ n - 1 < 2 ^ 64 by omega), Nat.mod_eq_of_lt (show F < 2 ^ 64 by omega), h64, compl_and hn hF]
  have := compl_lt n F
  exact i64_id (by omega) (by omega)
section
variable (S n a g : Nat) (lb : Array Value) (cont : Bool) (J : List Nat → World → Prop)
set_option maxHeartbeats 2000000 in
set_option maxRecDepth 100000 in
theorem fill_full (eg : ∀ args w, (callFunc g args).run Tryd.prog w = .ok (.enter g args) w) (hn : 2 ≤ n) (hn2 : n ≤ 24) (b F d : Nat) (pre : List Nat) (w : World) (e : F = 2 ^ n - 1) (hB : Boxes4 S n a g lb w) 
    (hm : ∀ q, Calls Tryd.prog g (#[.int .i64 (b : Int)] ++ lb) (w.drewN q) fun e w' => e = .returned (.bool cont) ∧ J (pre ++ [b]) w' ∧ KeepB S (w.drewN q) w') :
    Calls Tryd.prog 56 #[.int .i64 (b : Int), .int .i64 (F : Int), .pointer (some ⟨S, 0, none⟩), .pointer (some ⟨S + 1 + 1, 0, none⟩), .pointer (some ⟨S + 1, 0, none⟩), .pointer (some ⟨S + 1 + 1 + 1, 0, none⟩)] w
      (FillPost S J pre (vis n a (stA n a) (d + 1) b F) cont w) := by
  rw [vis_full e]
  obtain ⟨cn, ca, cm, cf⟩ := hB
  have HA := Aside0.mk (all_f hn2)
  have heq : ((F : Int) == ((2 ^ n - 1 : Nat) : Int)) = true := by rw [e]; exact beq_self_eq_true _
  have HM := Aside0.mk hm
  clear e hm ca cf
  generalize (2 ^ n - 1 : Nat) = full at HA heq
  go_enter Tryd.func56, Tryd.ntmps56
  go_wp2_with (first | (go_at_call 44; refine (canon_circle_all.calls _ _ _ HA.out).mono ?_; rintro e w' ⟨rfl, ⟨q, rfl⟩⟩) | ((with_reducible refine (HM.out _).mono ?_); rintro e w' ⟨rfl, hj, hk⟩))
  go_ret
  refine ⟨by simp, ?_, KeepB.trans (KeepB.drew S w _) hk⟩
  have : took cont [b] = [b] := by unfold took; cases cont <;> rfl
  rw [this]; exact hj
theorem took_go {cont : Bool} {V L : List Nat} (h : (cont || V.isEmpty) = true) (hc : cont = true ∨ L = []) : took cont V = V ∧ (cont = true ∨ L ++ V = []) := by
  cases cont with
  | true => exact ⟨rfl, .inl rfl⟩
  | false =>
    have hv : V = [] := by simpa using h
    have hl : L = [] := by simpa using hc
    subst hv hl
    exact ⟨rfl, .inr rfl⟩
theorem took_stop {cont : Bool} {V L A O : List Nat} (h : (cont || V.isEmpty) = false) (hc : cont = true ∨ L = []) (hs : ∃ R, A = L ++ O ++ R) (ho : O = V) : (cont || A.isEmpty) = false ∧ L = [] ∧ took cont A = took cont V := by
  obtain ⟨R, hs⟩ := hs
  rw [Bool.or_eq_false_iff] at h
  obtain ⟨h1, h2⟩ := h
  subst h1
  have hl : L = [] := by simpa using hc
  subst hl ho
  cases O with
  | nil => simp at h2
  | cons v V => subst hs; exact ⟨by simp, rfl, by simp [took]⟩
theorem took_all {cont : Bool} {L : List Nat} (hc : cont = true ∨ L = []) : took cont L = L := by
  rcases hc with rfl | rfl
  · rfl
  · cases cont <;> rfl
theorem visTo_split (n a d b F : Nat) {x : Nat} (hx : x < n) : ∃ R, visTo n a d b F n = visTo n a d b F x ++ visOne n a d b F x ++ R := by
  rw [← visTo_succ]
  obtain ⟨r, hr⟩ : ∃ r, n = x + 1 + r := ⟨n - (x + 1), by omega⟩
  have h : ∀ r, ∃ R, visTo n a d b F (x + 1 + r) = visTo n a d b F (x + 1) ++ R := by
    intro r
    induction r with
    | zero => exact ⟨[], by simp⟩
    | succ r ih =>
      obtain ⟨R, hR⟩ := ih
      exact ⟨R ++ visOne n a d b F (x + 1 + r), by rw [← Nat.add_assoc, visTo_succ, hR, List.append_assoc]⟩
  obtain ⟨R, hR⟩ := h r
  exact ⟨R, by rw [← hR, ← hr]⟩
theorem bit_shr {n a x : Nat} (hn : n ≤ 24) (ha : a < 2 ^ n) (hx : x ≤ 64) : ∃ sh : Int, (a : Int) / 2 ^ x = sh ∧ Go.bits .and .i64 sh 1 = if a.testBit x then 1 else 0 := by
  refine ⟨_, rfl, ?_⟩
  have h := bit_r hn ha hx
  unfold shr at h
  rw [Int.toNat_natCast, show min x IntKind.i64.bits = x from Nat.min_eq_left (by show x ≤ 64; omega)] at h
  exact h
theorem round_nums {n a F f x : Nat} (hn2 : n ≤ 24) (ha : a < 2 ^ n) (hF : F < 2 ^ n) (hf : f < n) (hx : x < n) : ((f : Int) - (x : Int) + (n : Int)) % (n : Int) = (((f + (n - x)) % n : Nat) : Int) ∧ Int.tmod ((f : Int) - (x : Int) + (n : Int)) (n : Int) = (((f + (n - x)) % n : Nat) : Int) ∧ ((n : Int) == 0) = false ∧
    canon_circle_move.f (n : Int) (a : Int) (((f + (n - x)) % n : Nat) : Int) = some (moveN n a ((f + (n - x)) % n) : Int) ∧ Go.bits .and .i64 (moveN n a ((f + (n - x)) % n) : Int) (F : Int) = ((moveN n a ((f + (n - x)) % n) &&& F : Nat) : Int) := by
  have hk : (f + (n - x)) % n < n := Nat.mod_lt _ (by omega)
  have e : (f : Int) - (x : Int) + (n : Int) = ((f + (n - x) : Nat) : Int) := by omega
  refine ⟨by rw [e]; omega, ?_, beq_eq_false_iff_ne.2 (by omega), move_f hn2 (by omega) ha, and_r hn2 (moveN_lt n a _) hF⟩
  rw [e, Int.tmod_eq_emod_of_nonneg (by omega)]; omega
theorem next_nums {n b F k m : Nat} (hn2 : n ≤ 24) (hb : b < 2 ^ n) (hF : F < 2 ^ n) (hk : k < n) (hm : m < 2 ^ n) : ∃ p2 b2 F2 : Nat, IntKind.i64.wrap ((2 : Int) ^ k) = (p2 : Int) ∧ wrap64 ((2 : Int) ^ k) = (p2 : Int) ∧ Go.bits .or .i64 (b : Int) (p2 : Int) = (b2 : Int) ∧
    Go.bits .or .i64 (F : Int) (m : Int) = (F2 : Int) ∧ b ||| 2 ^ k = b2 ∧ F ||| m = F2 := by
  have hp : 2 ^ k < 2 ^ n := Nat.pow_lt_pow_right (by omega) hk
  have h24 := pow24 hn2
  refine ⟨2 ^ k, b ||| 2 ^ k, F ||| m, ?_, ?_, or_r hn2 hb hp, or_r hn2 hF hm, rfl, rfl⟩
  · rw [← pow_cast]; generalize 2 ^ k = P at hp ⊢; rw [i64_id (by omega) (by omega)]
  · rw [← pow_cast]; generalize 2 ^ k = P at hp ⊢; rw [wrap_id (by omega) (by omega)]
set_option maxHeartbeats 4000000 in
set_option maxRecDepth 100000 in
theorem fill_free (eg : ∀ args w, (callFunc g args).run Tryd.prog w = .ok (.enter g args) w) (hn : 2 ≤ n) (hn2 : n ≤ 24) (ha : a < 2 ^ n) (b F d : Nat) (pre : List Nat) (w : World) (hP : Part n a b F) (e : F ≠ 2 ^ n - 1) (hB : Boxes4 S n a g lb w) (hT : Tabs w) (hJ : J pre w) (hJd : ∀ s A q, J s A → J s (A.drewN q))
    (ih : ∀ (k : Nat) (pre : List Nat) (w : World), k < n → moveN n a k &&& F = 0 → (moveN n a k).testBit (freeAt n F) = true → Boxes4 S n a g lb w → Tabs w → J pre w → Calls Tryd.prog 56 #[.int .i64 ((b ||| 2 ^ k : Nat) : Int), .int .i64 ((F ||| moveN n a k : Nat) : Int), .pointer (some ⟨S, 0, none⟩), .pointer (some ⟨S + 1 + 1, 0, none⟩), .pointer (some ⟨S + 1, 0, none⟩), .pointer (some ⟨S + 1 + 1 + 1, 0, none⟩)] w
      (FillPost S J pre (vis n a (stA n a) d (b ||| 2 ^ k) (F ||| moveN n a k)) cont w)) :
    Calls Tryd.prog 56 #[.int .i64 (b : Int), .int .i64 (F : Int), .pointer (some ⟨S, 0, none⟩), .pointer (some ⟨S + 1 + 1, 0, none⟩), .pointer (some ⟨S + 1, 0, none⟩), .pointer (some ⟨S + 1 + 1 + 1, 0, none⟩)] w
      (FillPost S J pre (vis n a (stA n a) (d + 1) b F) cont w) := by
  rw [vis_more e]
  obtain ⟨hb, hF, -, -⟩ := hP
  have cn := hB.cn
  obtain ⟨hl1, hl2, hl3, hl4⟩ := free_low hn2 hF e
  have HFS := Aside0.mk (freeAt_spec hF e).1
  have HB := Aside0.mk hB
  have HTB := Aside0.mk hT
  have HA := Aside0.mk (all_f hn2)
  have heq : ((F : Int) == ((2 ^ n - 1 : Nat) : Int)) = false := beq_eq_false_iff_ne.2 (fun h => e (by exact_mod_cast h))
  have hnot := andNot_i64 hn2 hF
  have HTZ := Aside0.mk (fun q => TZ_calls (compl n F) (freeAt n F) hl1 hl2 hl3 hl4 (w.drewN q) (hT.heap rfl))
  have hu : IntKind.u64.wrap (compl n F : Int) = (compl n F : Int) := by
    rw [u64_mod]; have : (2 : Nat) ^ 24 = 16777216 := by decide
    omega
  have HF := Aside0.mk hF
  have HBB := Aside0.mk hb
  have HE := Aside0.mk e
  have HI := Aside0.mk ih
  have HJD := Aside0.mk hJd
  have HJ := Aside0.mk hJ
  have HN := Aside0.mk hn
  have HN2 := Aside0.mk hn2
  have HAA := Aside0.mk ha
  have hn63 : n ≤ 24 := hn2
  clear e hJ hJd ih hF hb hl1 hl2 hl3 hl4 hB hT hn hn2 ha
  generalize hfull : (2 ^ n - 1 : Nat) = full at HA heq hnot
  generalize hcompl : compl n F = cF at hnot HTZ hu
  have HCF := Aside0.mk hcompl
  have HFU := Aside0.mk hfull
  clear hfull hcompl
  go_enter Tryd.func56, Tryd.ntmps56
  go_wp2_with (first | (go_at_call 44; refine (canon_circle_all.calls _ _ _ HA.out).mono ?_; rintro e w' ⟨rfl, ⟨q, rfl⟩⟩) | (go_at_call 57; refine (HTZ.out _).mono ?_; rintro e w' ⟨rfl, rfl⟩))
  obtain ⟨f, hf⟩ : ∃ f, freeAt n F = f := ⟨_, rfl⟩
  rw [hf] at HFS HTZ ⊢
  have HFF := Aside0.mk hf
  clear hf HTZ HA hnot hu heq cn
  go_loopg [27] n (fun gg s27 wr => ∃ x : Nat, s27 = .int .i64 x ∧ Aside0 (x + gg = n) ∧ Aside0 (J (pre ++ visTo n a d b F x) wr) ∧ Aside0 (cont = true ∨ visTo n a d b F x = []) ∧ Aside0 (KeepB S w wr))
  case atStart => exact ⟨0, rfl, ⟨by omega⟩, ⟨by show J (pre ++ []) _; rw [List.append_nil]; exact HJD.out _ _ _ HJ.out⟩, ⟨.inr rfl⟩, ⟨KeepB.drew S w _⟩⟩
  case round =>
    obtain ⟨x, rfl, HX, HJX, HC, HK⟩ := hrel
    by_cases hlt : x < n
    · have hltz : (x : Int) < (n : Int) := by omega
      have cn := (HB.out.keep HK.out).cn
      have ca := (HB.out.keep HK.out).ca
      have cf := (HB.out.keep HK.out).cf
      obtain ⟨sh, hsh, hbit⟩ := bit_shr HN2.out HAA.out (show x ≤ 64 by omega)
      have hx64 : x ≤ 64 := by omega
      have hfn : f < n := HFS.out
      have HS := Aside0.mk (visTo_succ n a d b F x)
      have HO := Aside0.mk (show visOne n a d b F x = match stA n a f x with
        | some k => if moveN n a k &&& F = 0 then vis n a (stA n a) d (b ||| 2 ^ k) (F ||| moveN n a k) else []
        | none => [] by unfold visOne; rw [HFF.out])
      cases hab : a.testBit x with
      | false =>
        rw [hab, if_neg (by decide)] at hbit
        have HO2 := Aside0.mk (show visOne n a d b F x = [] by rw [HO.out]; unfold stA; rw [hab]; rfl)
        clear hab
        go_wp2
        go_roundg (gk - 1)
        case measure => have := HX.out; omega
        case rel =>
          refine ⟨x + 1, by go_num, ⟨by have := HX.out; omega⟩, ⟨?_⟩, ⟨?_⟩, HK⟩
          · rw [HS.out, HO2.out, List.append_nil]; exact HJX.out
          · rw [HS.out, HO2.out, List.append_nil]; exact HC.out
      | true =>
        rw [hab, if_pos rfl] at hbit
        obtain ⟨e1, e2, e3, e4, e5⟩ := round_nums HN2.out HAA.out HF.out HFS.out hlt
        have HO1 := Aside0.mk (show visOne n a d b F x = if moveN n a ((f + (n - x)) % n) &&& F = 0 then vis n a (stA n a) d (b ||| 2 ^ ((f + (n - x)) % n)) (F ||| moveN n a ((f + (n - x)) % n)) else [] by
          rw [HO.out]; unfold stA; rw [hab]; rfl)
        have HMV := Aside0.mk e4
        have hk : (f + (n - x)) % n < n := Nat.mod_lt _ (by omega)
        have HSF := Aside0.mk (show (moveN n a ((f + (n - x)) % n)).testBit (freeAt n F) = true by
          rw [HFF.out]; exact ((stepOk_A HAA.out).1 f x _ HFS.out hlt (by unfold stA; rw [hab]; rfl)).2)
        clear hab e4
        generalize hkk : (f + (n - x)) % n = k at *
        generalize hmm : moveN n a k = m at *
        have HMM := Aside0.mk hmm
        have hm0 : (0 : Int) ≤ (k : Int) := by omega
        clear hkk hmm
        have hk64 : k ≤ 64 := by omega
        by_cases hz : m &&& F = 0
        · have e6 : (((m &&& F : Nat) : Int) == 0) = true := by rw [hz]; rfl
          have HO2 := Aside0.mk (show visOne n a d b F x = vis n a (stA n a) d (b ||| 2 ^ k) (F ||| m) by rw [HO1.out, if_pos hz])
          have HK2 := Aside0.mk hk
          obtain ⟨p2, b2, F2, r1, r2, r3, r4, hb2, hF2⟩ := next_nums HN2.out HBB.out HF.out hk (HMM.out ▸ moveN_lt n a k)
          have hz' := Aside0.mk hz
          rw [hb2, hF2] at HO2
          have HCALL : ∀ q, Calls Tryd.prog 56 #[.int .i64 (b2 : Int), .int .i64 (F2 : Int), .pointer (some ⟨S, 0, none⟩), .pointer (some ⟨S + 1 + 1, 0, none⟩), .pointer (some ⟨S + 1, 0, none⟩), .pointer (some ⟨S + 1 + 1 + 1, 0, none⟩)] (wr.drewN q)
            (FillPost S J (pre ++ visTo n a d b F x) (vis n a (stA n a) d b2 F2) cont (wr.drewN q)) := fun q => by
            have := HI.out k (pre ++ visTo n a d b F x) (wr.drewN q) hk (by rw [HMM.out]; exact hz'.out) (by rw [HMM.out]; exact HSF.out) ((HB.out.keep HK.out).keep (KeepB.drew S wr q)) (HTB.out.heap (HK.out.2.trans rfl)) (HJD.out _ _ _ HJX.out)
            rw [HMM.out, hb2, hF2] at this
            exact this
          have HCALL := Aside0.mk HCALL
          clear hz hz' hb2 hF2 hk
          generalize vis n a (stA n a) d b2 F2 = V at HCALL HO2
          cases hc : (cont || V.isEmpty) with
          | true =>
            have HCQ := Aside0.mk (fun q1 => show Calls Tryd.prog 56 #[.int .i64 (b2 : Int), .int .i64 (F2 : Int), .pointer (some ⟨S, 0, none⟩), .pointer (some ⟨S + 1 + 1, 0, none⟩), .pointer (some ⟨S + 1, 0, none⟩), .pointer (some ⟨S + 1 + 1 + 1, 0, none⟩)] (wr.drewN q1).drew fun e w' => e = .returned (.bool true) ∧ J (pre ++ visTo n a d b F x ++ took cont V) w' ∧ KeepB S w w' from by
              rw [show (wr.drewN q1).drew = wr.drewN (q1 + 1) from rfl]
              exact (HCALL.out _).mono fun e w' h => ⟨h.1.trans (by rw [hc]), h.2.1, HK.out.trans ((KeepB.drew S wr _).trans h.2.2)⟩)
            have hfin := Aside0.mk (took_go hc HC.out)
            clear hc HCALL
            go_wp2_with (go_at_call 42; (with_reducible refine (canon_circle_move.calls _ _ _ _ _ HMV.out).mono ?_); rintro e w' ⟨rfl, ⟨q, rfl⟩⟩)
            have cfq : (wr.drewN q).cell? ⟨S + 1 + 1 + 1, 0, none⟩ = some (.func (.func 56) #[] #[.pointer (some ⟨S, 0, none⟩), .pointer (some ⟨S + 1 + 1, 0, none⟩), .pointer (some ⟨S + 1, 0, none⟩), .pointer (some ⟨S + 1 + 1 + 1, 0, none⟩)]) := cf
            have HCR := Aside0.mk (HCQ.out q)
            generalize wr.drewN q = Wq at cfq HCR ⊢
            clear cn ca cf HCQ
            go_still_tail 13, (by kernel_rfl)
            go_wp2_with ((with_reducible refine HCR.out.mono ?_); rintro e w' ⟨rfl, hj, hk2⟩)
            go_roundg (gk - 1)
            case measure => have := HX.out; omega
            case rel =>
              refine ⟨x + 1, by go_num, ⟨by have := HX.out; omega⟩, ⟨?_⟩, ⟨?_⟩, ⟨hk2⟩⟩
              · rw [HS.out, HO2.out, ← List.append_assoc]; rw [hfin.out.1] at hj; exact hj
              · rw [HS.out, HO2.out]; exact hfin.out.2
          | false =>
            have HCQ := Aside0.mk (fun q1 => show Calls Tryd.prog 56 #[.int .i64 (b2 : Int), .int .i64 (F2 : Int), .pointer (some ⟨S, 0, none⟩), .pointer (some ⟨S + 1 + 1, 0, none⟩), .pointer (some ⟨S + 1, 0, none⟩), .pointer (some ⟨S + 1 + 1 + 1, 0, none⟩)] (wr.drewN q1).drew fun e w' => e = .returned (.bool false) ∧ J (pre ++ visTo n a d b F x ++ took cont V) w' ∧ KeepB S w w' from by
              rw [show (wr.drewN q1).drew = wr.drewN (q1 + 1) from rfl]
              exact (HCALL.out _).mono fun e w' h => ⟨h.1.trans (by rw [hc]), h.2.1, HK.out.trans ((KeepB.drew S wr _).trans h.2.2)⟩)
            have hfin := Aside0.mk (took_stop hc HC.out (visTo_split n a d b F hlt) HO2.out)
            clear hc HCALL
            go_wp2_with (go_at_call 42; (with_reducible refine (canon_circle_move.calls _ _ _ _ _ HMV.out).mono ?_); rintro e w' ⟨rfl, ⟨q, rfl⟩⟩)
            have cfq : (wr.drewN q).cell? ⟨S + 1 + 1 + 1, 0, none⟩ = some (.func (.func 56) #[] #[.pointer (some ⟨S, 0, none⟩), .pointer (some ⟨S + 1 + 1, 0, none⟩), .pointer (some ⟨S + 1, 0, none⟩), .pointer (some ⟨S + 1 + 1 + 1, 0, none⟩)]) := cf
            have HCR := Aside0.mk (HCQ.out q)
            generalize wr.drewN q = Wq at cfq HCR ⊢
            clear cn ca cf HCQ
            go_still_tail 13, (by kernel_rfl)
            go_wp2_with ((with_reducible refine HCR.out.mono ?_); rintro e w' ⟨rfl, hj, hk2⟩)
            go_ret
            refine ⟨by rw [hfin.out.1]; rfl, ?_, hk2⟩
            rw [hfin.out.2.1, List.append_nil] at hj
            rw [hfin.out.2.2]; exact hj
        · have e6 : (((m &&& F : Nat) : Int) == 0) = false := beq_eq_false_iff_ne.2 (by omega)
          have HO2 := Aside0.mk (show visOne n a d b F x = [] by rw [HO1.out, if_neg hz])
          clear hz
          go_wp2_with (go_at_call 42; (with_reducible refine (canon_circle_move.calls _ _ _ _ _ HMV.out).mono ?_); rintro e w' ⟨rfl, ⟨q, rfl⟩⟩)
          go_quiet (fail)
          go_wp2
          go_roundg (gk - 1)
          case measure => have := HX.out; omega
          case rel =>
            refine ⟨x + 1, by go_num, ⟨by have := HX.out; omega⟩, ⟨?_⟩, ⟨?_⟩, ⟨HK.out.trans (KeepB.drew S wr _)⟩⟩
            · rw [HS.out, HO2.out, List.append_nil]; exact HJD.out _ _ _ HJX.out
            · rw [HS.out, HO2.out, List.append_nil]; exact HC.out
    · have hxn : x = n := by have := HX.out; omega
      have HXN := Aside0.mk hxn
      clear hxn
      have hltz : ¬ (x : Int) < (n : Int) := by omega
      go_wp2
      go_ret
      have hj := HJX.out
      have hc := HC.out
      rw [HXN.out] at hj hc
      refine ⟨?_, ?_, HK.out⟩
      · rcases hc with hc | hc <;> simp [hc]
      · rw [took_all hc]; exact hj
theorem fill_calls (eg : ∀ args w, (callFunc g args).run Tryd.prog w = .ok (.enter g args) w) (hn : 2 ≤ n) (hn2 : n ≤ 24) (ha : a < 2 ^ n) (h0 : a.testBit 0 = true) (hJd : ∀ s A q, J s A → J s (A.drewN q))
    (hm : ∀ (pre : List Nat) (b : Nat) (W : World), J pre W → b < 2 ^ n → (Tiled n a b ∧ b.testBit 0 = true) → Calls Tryd.prog g (#[.int .i64 (b : Int)] ++ lb) W fun e w' => e = .returned (.bool cont) ∧ J (pre ++ [b]) w' ∧ KeepB S W w') :
    ∀ (d b F : Nat) (pre : List Nat) (w : World), Part n a b F → b.testBit 0 = true → cnt n (fun i => !F.testBit i) < d → Boxes4 S n a g lb w → Tabs w → J pre w →
    Calls Tryd.prog 56 #[.int .i64 (b : Int), .int .i64 (F : Int), .pointer (some ⟨S, 0, none⟩), .pointer (some ⟨S + 1 + 1, 0, none⟩), .pointer (some ⟨S + 1, 0, none⟩), .pointer (some ⟨S + 1 + 1 + 1, 0, none⟩)] w
      (FillPost S J pre (vis n a (stA n a) d b F) cont w) := by
  intro d
  induction d with
  | zero => intro b F pre w _ _ hd; omega
  | succ d ih =>
    intro b F pre w hP hb0 hd hB hT hJ
    by_cases e : F = 2 ^ n - 1
    · exact fill_full S n a g lb cont J eg hn hn2 b F d pre w e hB (fun q => hm pre b _ (hJd _ _ _ hJ) hP.1 ⟨part_full hP e, hb0⟩)
    · obtain ⟨hf, hf0, _⟩ := freeAt_spec hP.2.1 e
      refine fill_free S n a g lb cont J eg hn hn2 ha b F d pre w hP e hB hT hJ hJd (fun k pre w hk hz hsf hB hT hJ => ?_)
      refine ih _ _ pre w (hP.add hk hz) (by rw [Nat.testBit_or, hb0, Bool.true_or]) ?_ hB hT hJ
      have := cnt_lt_of (p := fun i => !(F ||| moveN n a k).testBit i) (q := fun i => !F.testBit i) n (fun i _ hp => by
            rw [Nat.testBit_or] at hp; cases hq : F.testBit i <;> simp_all) (freeAt n F) hf (by rw [Nat.testBit_or, hsf]; simp) (by rw [hf0]; rfl)
      omega
set_option maxHeartbeats 2000000 in
theorem partners_calls (eg : ∀ args w, (callFunc g args).run Tryd.prog w = .ok (.enter g args) w) (hn : 2 ≤ n) (hn2 : n ≤ 24) (ha : a < 2 ^ n) (h0 : a.testBit 0 = true) (w : World) (hT : Tabs w) (hS : S = w.heap.size) (hJd : ∀ s A q, J s A → J s (A.drewN q))
    (hJ : ∀ W, Below S w W → J [] W)
    (hm : ∀ (pre : List Nat) (b : Nat) (W : World), J pre W → b < 2 ^ n → (Tiled n a b ∧ b.testBit 0 = true) → Calls Tryd.prog g (#[.int .i64 (b : Int)] ++ lb) W fun e w' => e = .returned (.bool cont) ∧ J (pre ++ [b]) w' ∧ KeepB S W w') :
    Calls Tryd.prog 30 #[.int .i64 (n : Int), .int .i64 (a : Int), .func (.func g) #[] lb] w fun e w' => (∃ v, e = .returned v) ∧ J (took cont (vis n a (stA n a) (n + 1) 1 a)) w' := by
  have HC := Aside0.mk (fill_calls S n a g lb cont J eg hn hn2 ha h0 hJd hm)
  have HJ := Aside0.mk hJ
  have HT := Aside0.mk hT
  have HP := Aside0.mk (Part.start (show 1 ≤ n by omega) ha)
  have HS := Aside0.mk hS
  have hmf : ∀ (fn : Fn) (first cap : Array Value) (w : World), (Instr.makeFunc fn first cap).run Tryd.prog w = .ok (.func fn first cap) w := fun _ _ _ _ => rfl
  clear hJ hT hm hJd hS hn hn2 ha h0
  go_enter Tryd.func30, Tryd.ntmps30
  go_wp2_with fail
  obtain ⟨W0, hW0⟩ : ∃ W0, (((w.alloc (.cells #[.int .i64 (n : Int)] 47)).alloc (.cells #[.int .i64 (a : Int)] 3)).alloc (.cells #[.func (.func g) #[] lb] 50)).alloc (.cells #[.func (.func 56) #[] #[.pointer (some ⟨w.heap.size, 0, none⟩), .pointer (some ⟨w.heap.size + 1 + 1, 0, none⟩), .pointer (some ⟨w.heap.size + 1, 0, none⟩), .pointer (some ⟨w.heap.size + 1 + 1 + 1, 0, none⟩)]] 25) = W0 := ⟨_, rfl⟩
  obtain ⟨c0, c1, c2, c3, -, -, -, B0⟩ := four_new w _ _ _ _ _ _ _ _ S HS.out W0 hW0
  rw [hW0, ← HS.out]
  rw [← HS.out] at c3
  have hrun := HC.out (n + 1) 1 a [] W0 HP.out (by decide) start_cnt ⟨c0, c1, c2, c3⟩ (HT.out.below (HS.out ▸ B0)) (HJ.out W0 B0)
  clear hW0 c0 c1 c2 c3 B0 HJ HC
  refine hrun.mono ?_
  rintro e w' ⟨rfl, hj, hk⟩
  generalize (cont || (vis n a (stA n a) (n + 1) 1 a).isEmpty) = bb
  go_wp2
  go_end0
  exact ⟨⟨_, rfl⟩, hj⟩
end

end Go.Proofs.YtkidgakjeahebaaDoor.P
namespace Go.Proofs.YtkidgakjeahebaaDoor.P
open Go.RowKit Go.Proofs.YtkidgakjeahebaaDoorW.PrintWords Go.Proofs.YtkidgakjeahebaaDoorW.PrintLast Go.Proofs.YtkidgakjeahebaaDoorW.PrintMore
attribute [local go_sem] max2_int min2_int max_two min_two max_three min_three max_four min_four   -- for this text's walks alone
set_option linter.unusedVariables false
set_option linter.unusedSimpArgs false

/-! canon.Partner and canon.Partners: the least of all partners, and how many there are -/
def PL (n a : Nat) : List Nat := vis n a (stA n a) (n + 1) 1 a
def minStep (m b : Nat) : Nat := if m = 0 ∨ b < m then b else m
def minB (l : List Nat) : Nat := l.foldl minStep 0
def minI (l : List Nat) : Int := ((minB l : Nat) : Int)
def lenI (l : List Nat) : Int := wrap64 ((l.length : Nat) : Int)
def canon_Partners.f (a0 a1 : Int) : Option (Int × Int) := if ValidR a0 a1 then some (lenI (PL a0.toNat a1.toNat), 0) else some (0, 2)
def canon_Partner.f (a0 a1 : Int) : Option (Int × Int) := if ValidR a0 a1 then (if minI (PL a0.toNat a1.toNat) = 0 then some (0, 4) else some (minI (PL a0.toNat a1.toNat), 0)) else some (0, 2)
theorem minB_snoc (l : List Nat) (b : Nat) : minB (l ++ [b]) = minStep (minB l) b := by unfold minB; rw [List.foldl_append]; rfl
theorem lenI_nil : lenI [] = 0 := by unfold lenI wrap64; decide
theorem minI_nil : minI [] = 0 := rfl
theorem lenI_snoc (l : List Nat) (b : Nat) : lenI (l ++ [b]) = wrap64 (lenI l + 1) := by
  unfold lenI
  rw [List.length_append, List.length_singleton]
  unfold wrap64
  omega
def StepsOut (f : List Nat → Int) (g : Nat) : Prop := ∀ (pre : List Nat) (b : Nat) (W : World) (B : Nat), W.cell? ⟨B, 0, none⟩ = some (.int .i64 (f pre)) → W.frozen? ⟨B, 0, none⟩ = false →
  Calls Tryd.prog g #[.int .i64 (b : Int), .pointer (some ⟨B, 0, none⟩)] W fun e w' => e = .returned (.bool true) ∧ ((w' = W.setCell ⟨B, 0, none⟩ (.int .i64 (f (pre ++ [b])))) ∨ (w' = W ∧ f (pre ++ [b]) = f pre))
theorem partners_more : StepsOut lenI 32 := by
  intro pre b W B hc hf
  have HL := Aside0.mk (lenI_snoc pre b)
  generalize lenI pre = c at hc HL
  obtain ⟨d, hd⟩ : ∃ d, wrap64 (c + 1) = d := ⟨_, rfl⟩
  have hd2 : IntKind.i64.wrap (c + 1) = d := (i64_w _).trans hd
  rw [hd] at HL
  go_enter Tryd.func32, Tryd.ntmps32
  go_wp2
  go_ret
  refine ⟨rfl, .inl ?_⟩
  rw [HL.out]
theorem partner_more : StepsOut minI 31 := by
  intro pre b W B hc hf
  have HL := Aside0.mk (show minI (pre ++ [b]) = ((minStep (minB pre) b : Nat) : Int) by unfold minI; rw [minB_snoc])
  have HM := Aside0.mk (show minI pre = ((minB pre : Nat) : Int) from rfl)
  rw [HM.out] at hc
  generalize hm : minB pre = m at hc HL HM
  clear hm
  by_cases hz : m = 0
  · have e1 : ((m : Int) == 0) = true := by rw [hz]; rfl
    have HL2 := Aside0.mk (show minI (pre ++ [b]) = (b : Int) by rw [HL.out]; unfold minStep; rw [if_pos (.inl hz)])
    clear hz HL
    go_enter Tryd.func31, Tryd.ntmps31
    go_wp2
    go_ret
    refine ⟨rfl, .inl ?_⟩
    rw [HL2.out]
  · have e1 : ((m : Int) == 0) = false := beq_eq_false_iff_ne.2 (by omega)
    by_cases hl : b < m
    · have e2 : decide ((b : Int) < (m : Int)) = true := decide_eq_true (by omega)
      have e3 : decide (b < m) = true := decide_eq_true hl
      have HL2 := Aside0.mk (show minI (pre ++ [b]) = (b : Int) by rw [HL.out]; unfold minStep; rw [if_pos (.inr hl)])
      clear hz HL hl
      go_enter Tryd.func31, Tryd.ntmps31
      go_wp2
      go_ret
      refine ⟨rfl, .inl ?_⟩
      rw [HL2.out]
    · have e2 : decide ((b : Int) < (m : Int)) = false := decide_eq_false (by omega)
      have e3 : decide (b < m) = false := decide_eq_false hl
      have HL2 := Aside0.mk (show minI (pre ++ [b]) = minI pre by rw [HL.out, HM.out]; unfold minStep; rw [if_neg (fun h => h.elim hz hl)])
      clear hz HL hl
      go_enter Tryd.func31, Tryd.ntmps31
      go_wp2
      go_ret
      exact ⟨rfl, .inr ⟨rfl, HL2.out⟩⟩
theorem out_run (f : List Nat → Int) (g : Nat) (hg : StepsOut f g) (eg : ∀ args w, (callFunc g args).run Tryd.prog w = .ok (.enter g args) w) (hf0 : f [] = 0) {a0 a1 : Int} (hc : ValidR a0 a1) (w : World) (hT : Tabs w) (w2 : World) (hb : Below w.heap.size w w2) :
    Calls Tryd.prog 30 #[.int .i64 a0, .int .i64 a1, .func (.func g) #[] #[.pointer (some ⟨w2.heap.size, 0, none⟩)]] (w2.alloc (.cells #[.int .i64 0] 3)) fun e w' => (∃ v, e = .returned v) ∧
      w'.cell? ⟨w2.heap.size, 0, none⟩ = some (.int .i64 (f (PL a0.toNat a1.toNat))) ∧ Below w.heap.size w w' := by
  obtain ⟨n, a, rfl, rfl, hn, hn2, ha, h0⟩ := validR_nat hc
  obtain ⟨B, hB⟩ : ∃ B, B = w2.heap.size := ⟨_, rfl⟩
  rw [← hB]
  have hB1 : 1 < B := by rw [hB]; exact Nat.lt_of_lt_of_le hT.size hb.size
  have hwB : w.heap.size ≤ B := by rw [hB]; exact hb.size
  have hnew := new_cell w2 (.int .i64 0) 3
  rw [← hB] at hnew
  have hsz : (w2.alloc (.cells #[.int .i64 0] 3)).heap.size = B + 1 := by rw [World.size_alloc, ← hB]
  have hbw : Below w.heap.size w (w2.alloc (.cells #[.int .i64 0] 3)) := below_alloc hb _
  refine (partners_calls (B + 1) n a g #[.pointer (some ⟨B, 0, none⟩)] true (fun pre W => W.cell? ⟨B, 0, none⟩ = some (.int .i64 (f pre)) ∧ W.frozen? ⟨B, 0, none⟩ = false ∧ Below w.heap.size w W) eg hn hn2 ha h0 _ (hT.below hbw) hsz.symm ?_ ?_ ?_).mono ?_
  · rintro s A q ⟨h1, h2, h3⟩
    exact ⟨h1, h2, pw_below_drewN h3 q⟩
  · intro W hW
    refine ⟨?_, ?_, hbw.trans (hW.mono (by omega))⟩
    · rw [hf0]; exact (hW.cell (p := ⟨B, 0, none⟩) (by simp)).trans hnew.1
    · exact (hW.frozen (p := ⟨B, 0, none⟩) (by simp)).trans hnew.2
  · rintro pre b W ⟨h1, h2, h3⟩ _ _
    refine (hg pre b W B h1 h2).mono ?_
    rintro e w' ⟨rfl, (rfl | ⟨rfl, h⟩)⟩
    · refine ⟨rfl, ⟨World.cell?_setCell_same' _ _ _ (by rw [h1]; rfl), by rw [World.frozen?_setCell]; exact h2, h3.setCell (p := ⟨B, 0, none⟩) hwB _⟩, fun i hi _ => Below.heap_setCell W ⟨B, 0, none⟩ _ i (by simp only [ne_eq]; omega), Below.heap_setCell W ⟨B, 0, none⟩ _ 1 (by simp only [ne_eq]; omega)⟩
    · exact ⟨rfl, ⟨by rw [h]; exact h1, h2, h3⟩, KeepB.refl _ _⟩
  · rintro e w' ⟨hv, h1, h2, h3⟩
    exact ⟨hv, h1, h3⟩
set_option maxHeartbeats 4000000 in
set_option maxRecDepth 100000 in
theorem canon_Partners.calls (a0 a1 r1 r2 : Int) (w : World) (hT : Tabs w) (h : canon_Partners.f a0 a1 = some (r1, r2)) :
    Calls Tryd.prog 13 #[.int .i64 a0, .int .i64 a1] w fun e w' => e = .returned (.tuple #[.int .i64 r1, .int .i64 r2]) ∧ Below w.heap.size w w' := by
  have HB := Aside0.mk (Below.refl w.heap.size w)
  have HT := Aside0.mk hT
  unfold canon_Partners.f at h
  have hv := valid1_f a0 a1
  obtain ⟨y, hy⟩ : ∃ y : List Int, y = [a1] := ⟨_, rfl⟩
  rw [← hy] at hv
  have HY := Aside0.mk hy
  clear hy hT
  have hmf : ∀ (fn : Fn) (first cap : Array Value) (w : World), (Instr.makeFunc fn first cap).run Tryd.prog w = .ok (.func fn first cap) w := fun _ _ _ _ => rfl
  by_cases hc : ValidR a0 a1
  · rw [decide_eq_true hc] at hv
    rw [if_pos hc] at h
    have HV := Aside0.mk hv
    have HRUN := Aside0.mk (fun (w2 : World) (hb2 : Below w.heap.size w w2) => out_run lenI 32 partners_more (enters_of Tryd.func32 (by kernel_rfl) rfl) lenI_nil hc w HT.out w2 hb2)
    obtain ⟨v, hv2⟩ : ∃ v, lenI (PL a0.toNat a1.toNat) = v := ⟨_, rfl⟩
    rw [hv2] at h HRUN
    simp only [Option.some.injEq, Prod.mk.injEq] at h
    obtain ⟨rfl, rfl⟩ := h
    clear hv hc hv2
    go_enter Tryd.func13, Tryd.ntmps13
    go_wp2_with (first | ((with_reducible refine gate_dst (N := 9) rfl ?_); refine Kd.R_lit (Kd.int .i64) _ 3 ?hg (N := 9) ?hd (xs := ([a1] : List Int)) (inner := [.int .i64 a1]) (ok := fun _ => True) (okp := fun _ => True) ?hr ?hp (fun _ hk => hk) trivial (Below.refl _ _) (Nat.le_refl _) (by simp) ?_; (case hd => rfl); (case hg => rfl); (case hr => first | (go_simp; done) | (go_simp; rfl)); (case hp => exact (Reps.one (show Kd.M (Kd.int .i64) _ _ _ a1 [.int .i64 a1] from rfl) (Reps.none _ _))); intro v1002 w7 ho8 hb hg_ hnew_; clear hg_ hnew_; rw [← HY.out] at ho8; have n0_ := Aside0.mk (Kd.R_lower ho8 (below_size (by repeat (first | (with_reducible first | exact HB.out | apply below_alloc | apply pw_below_drewN | apply below_drew1) | exact HB.out)))); have n1_ := Aside0.mk (below_step (by repeat (first | (with_reducible first | exact HB.out | apply below_alloc | apply pw_below_drewN | apply below_drew1) | exact HB.out)) hb); clear HB; have HO := n0_; have HB := n1_; clear n0_ n1_; clear hb ho8; obtain ⟨Ao9, co9, eo9⟩ := Kd.R_slice HO.out; subst eo9) | ((with_reducible refine gate_callee (f := 28) rfl ?_); refine goesL_ (some 10) rfl rfl Tryd.func28 (by kernel_rfl) rfl #[.int .i64 a0, .slice Ao9 y.length co9] rfl (by (try simp only [List.map_toArray, List.map_cons, List.map_nil]); first | done | rfl) ?_; (with_reducible refine (canon_circle_valid.calls a0 _ _ y true _ ?side1 ?side2 HV.out).mono ?_); (case side1 => repeat (first | exact (Kd.R_reads' HO.out).2.2 | (with_reducible refine Kd.C_alloc ?_ _) | (with_reducible refine Kd.C_drewN ?_ _) | (with_reducible refine Kd.C_drew ?_))); (case side2 => exact (Kd.R_reads' HO.out).2.1); rintro e w10 ⟨rfl, hb⟩; refine ⟨_, rfl, ?_⟩; have n0_ := Aside0.mk (below_step (by repeat (first | (with_reducible first | exact HB.out | apply below_alloc | apply pw_below_drewN | apply below_drew1) | exact HB.out)) hb); clear HB HO; have HB := n0_; clear n0_ hb))
    refine (HRUN.out _ HB.out).mono ?_
    rintro e w12 ⟨⟨rv, rfl⟩, hcell, hb⟩
    clear HB
    have HB := Aside0.mk hb
    clear hb
    go_wp2
    go_ret2
    exact ⟨by first | rfl | simp, HB.out⟩
  · rw [decide_eq_false hc] at hv
    rw [if_neg hc] at h
    have HV := Aside0.mk hv
    simp only [Option.some.injEq, Prod.mk.injEq] at h
    obtain ⟨rfl, rfl⟩ := h
    clear hv hc
    go_enter Tryd.func13, Tryd.ntmps13
    go_wp2_with (first | ((with_reducible refine gate_dst (N := 9) rfl ?_); refine Kd.R_lit (Kd.int .i64) _ 3 ?hg (N := 9) ?hd (xs := ([a1] : List Int)) (inner := [.int .i64 a1]) (ok := fun _ => True) (okp := fun _ => True) ?hr ?hp (fun _ hk => hk) trivial (Below.refl _ _) (Nat.le_refl _) (by simp) ?_; (case hd => rfl); (case hg => rfl); (case hr => first | (go_simp; done) | (go_simp; rfl)); (case hp => exact (Reps.one (show Kd.M (Kd.int .i64) _ _ _ a1 [.int .i64 a1] from rfl) (Reps.none _ _))); intro v1002 w7 ho8 hb hg_ hnew_; clear hg_ hnew_; rw [← HY.out] at ho8; have n0_ := Aside0.mk (Kd.R_lower ho8 (below_size (by repeat (first | (with_reducible first | exact HB.out | apply below_alloc | apply pw_below_drewN | apply below_drew1) | exact HB.out)))); have n1_ := Aside0.mk (below_step (by repeat (first | (with_reducible first | exact HB.out | apply below_alloc | apply pw_below_drewN | apply below_drew1) | exact HB.out)) hb); clear HB; have HO := n0_; have HB := n1_; clear n0_ n1_; clear hb ho8; obtain ⟨Ao9, co9, eo9⟩ := Kd.R_slice HO.out; subst eo9) | ((with_reducible refine gate_callee (f := 28) rfl ?_); refine goesL_ (some 10) rfl rfl Tryd.func28 (by kernel_rfl) rfl #[.int .i64 a0, .slice Ao9 y.length co9] rfl (by (try simp only [List.map_toArray, List.map_cons, List.map_nil]); first | done | rfl) ?_; (with_reducible refine (canon_circle_valid.calls a0 _ _ y false _ ?side1 ?side2 HV.out).mono ?_); (case side1 => repeat (first | exact (Kd.R_reads' HO.out).2.2 | (with_reducible refine Kd.C_alloc ?_ _) | (with_reducible refine Kd.C_drewN ?_ _) | (with_reducible refine Kd.C_drew ?_))); (case side2 => exact (Kd.R_reads' HO.out).2.1); rintro e w10 ⟨rfl, hb⟩; refine ⟨_, rfl, ?_⟩; have n0_ := Aside0.mk (below_step (by repeat (first | (with_reducible first | exact HB.out | apply below_alloc | apply pw_below_drewN | apply below_drew1) | exact HB.out)) hb); clear HB HO; have HB := n0_; clear n0_ hb))
    go_ret2
    exact ⟨by first | rfl | simp, (by repeat (first | (with_reducible first | exact HB.out | apply below_alloc | apply pw_below_drewN | apply below_drew1) | exact HB.out))⟩

set_option maxHeartbeats 4000000 in
set_option maxRecDepth 100000 in
theorem canon_Partner.calls (a0 a1 r1 r2 : Int) (w : World) (hT : Tabs w) (h : canon_Partner.f a0 a1 = some (r1, r2)) :
    Calls Tryd.prog 12 #[.int .i64 a0, .int .i64 a1] w fun e w' => e = .returned (.tuple #[.int .i64 r1, .int .i64 r2]) ∧ Below w.heap.size w w' := by
  have HB := Aside0.mk (Below.refl w.heap.size w)
  have HT := Aside0.mk hT
  unfold canon_Partner.f at h
  have hv := valid1_f a0 a1
  obtain ⟨y, hy⟩ : ∃ y : List Int, y = [a1] := ⟨_, rfl⟩
  rw [← hy] at hv
  have HY := Aside0.mk hy
  clear hy hT
  have hmf : ∀ (fn : Fn) (first cap : Array Value) (w : World), (Instr.makeFunc fn first cap).run Tryd.prog w = .ok (.func fn first cap) w := fun _ _ _ _ => rfl
  by_cases hc : ValidR a0 a1
  · rw [decide_eq_true hc] at hv
    rw [if_pos hc] at h
    have HV := Aside0.mk hv
    have HRUN := Aside0.mk (fun (w2 : World) (hb2 : Below w.heap.size w w2) => out_run minI 31 partner_more (enters_of Tryd.func31 (by kernel_rfl) rfl) minI_nil hc w HT.out w2 hb2)
    obtain ⟨v, hv2⟩ : ∃ v, minI (PL a0.toNat a1.toNat) = v := ⟨_, rfl⟩
    rw [hv2] at h HRUN
    clear hv hc hv2
    by_cases hz : v = 0
    · rw [if_pos hz] at h
      simp only [Option.some.injEq, Prod.mk.injEq] at h
      obtain ⟨rfl, rfl⟩ := h
      have hz2 : (v == 0) = true := by rw [hz]; rfl
      clear hz
      go_enter Tryd.func12, Tryd.ntmps12
      go_wp2_with (first | ((with_reducible refine gate_dst (N := 9) rfl ?_); refine Kd.R_lit (Kd.int .i64) _ 3 ?hg (N := 9) ?hd (xs := ([a1] : List Int)) (inner := [.int .i64 a1]) (ok := fun _ => True) (okp := fun _ => True) ?hr ?hp (fun _ hk => hk) trivial (Below.refl _ _) (Nat.le_refl _) (by simp) ?_; (case hd => rfl); (case hg => rfl); (case hr => first | (go_simp; done) | (go_simp; rfl)); (case hp => exact (Reps.one (show Kd.M (Kd.int .i64) _ _ _ a1 [.int .i64 a1] from rfl) (Reps.none _ _))); intro v1002 w7 ho8 hb hg_ hnew_; clear hg_ hnew_; rw [← HY.out] at ho8; have n0_ := Aside0.mk (Kd.R_lower ho8 (below_size (by repeat (first | (with_reducible first | exact HB.out | apply below_alloc | apply pw_below_drewN | apply below_drew1) | exact HB.out)))); have n1_ := Aside0.mk (below_step (by repeat (first | (with_reducible first | exact HB.out | apply below_alloc | apply pw_below_drewN | apply below_drew1) | exact HB.out)) hb); clear HB; have HO := n0_; have HB := n1_; clear n0_ n1_; clear hb ho8; obtain ⟨Ao9, co9, eo9⟩ := Kd.R_slice HO.out; subst eo9) | ((with_reducible refine gate_callee (f := 28) rfl ?_); refine goesL_ (some 10) rfl rfl Tryd.func28 (by kernel_rfl) rfl #[.int .i64 a0, .slice Ao9 y.length co9] rfl (by (try simp only [List.map_toArray, List.map_cons, List.map_nil]); first | done | rfl) ?_; (with_reducible refine (canon_circle_valid.calls a0 _ _ y true _ ?side1 ?side2 HV.out).mono ?_); (case side1 => repeat (first | exact (Kd.R_reads' HO.out).2.2 | (with_reducible refine Kd.C_alloc ?_ _) | (with_reducible refine Kd.C_drewN ?_ _) | (with_reducible refine Kd.C_drew ?_))); (case side2 => exact (Kd.R_reads' HO.out).2.1); rintro e w10 ⟨rfl, hb⟩; refine ⟨_, rfl, ?_⟩; have n0_ := Aside0.mk (below_step (by repeat (first | (with_reducible first | exact HB.out | apply below_alloc | apply pw_below_drewN | apply below_drew1) | exact HB.out)) hb); clear HB HO; have HB := n0_; clear n0_ hb))
      refine (HRUN.out _ HB.out).mono ?_
      rintro e w12 ⟨⟨rv, rfl⟩, hcell, hb⟩
      clear HB
      have HB := Aside0.mk hb
      clear hb
      go_wp2
      go_ret2
      exact ⟨by first | rfl | simp, HB.out⟩
    · rw [if_neg hz] at h
      simp only [Option.some.injEq, Prod.mk.injEq] at h
      obtain ⟨rfl, rfl⟩ := h
      have hz2 : (v == 0) = false := beq_eq_false_iff_ne.2 hz
      clear hz
      go_enter Tryd.func12, Tryd.ntmps12
      go_wp2_with (first | ((with_reducible refine gate_dst (N := 9) rfl ?_); refine Kd.R_lit (Kd.int .i64) _ 3 ?hg (N := 9) ?hd (xs := ([a1] : List Int)) (inner := [.int .i64 a1]) (ok := fun _ => True) (okp := fun _ => True) ?hr ?hp (fun _ hk => hk) trivial (Below.refl _ _) (Nat.le_refl _) (by simp) ?_; (case hd => rfl); (case hg => rfl); (case hr => first | (go_simp; done) | (go_simp; rfl)); (case hp => exact (Reps.one (show Kd.M (Kd.int .i64) _ _ _ a1 [.int .i64 a1] from rfl) (Reps.none _ _))); intro v1002 w7 ho8 hb hg_ hnew_; clear hg_ hnew_; rw [← HY.out] at ho8; have n0_ := Aside0.mk (Kd.R_lower ho8 (below_size (by repeat (first | (with_reducible first | exact HB.out | apply below_alloc | apply pw_below_drewN | apply below_drew1) | exact HB.out)))); have n1_ := Aside0.mk (below_step (by repeat (first | (with_reducible first | exact HB.out | apply below_alloc | apply pw_below_drewN | apply below_drew1) | exact HB.out)) hb); clear HB; have HO := n0_; have HB := n1_; clear n0_ n1_; clear hb ho8; obtain ⟨Ao9, co9, eo9⟩ := Kd.R_slice HO.out; subst eo9) | ((with_reducible refine gate_callee (f := 28) rfl ?_); refine goesL_ (some 10) rfl rfl Tryd.func28 (by kernel_rfl) rfl #[.int .i64 a0, .slice Ao9 y.length co9] rfl (by (try simp only [List.map_toArray, List.map_cons, List.map_nil]); first | done | rfl) ?_; (with_reducible refine (canon_circle_valid.calls a0 _ _ y true _ ?side1 ?side2 HV.out).mono ?_); (case side1 => repeat (first | exact (Kd.R_reads' HO.out).2.2 | (with_reducible refine Kd.C_alloc ?_ _) | (with_reducible refine Kd.C_drewN ?_ _) | (with_reducible refine Kd.C_drew ?_))); (case side2 => exact (Kd.R_reads' HO.out).2.1); rintro e w10 ⟨rfl, hb⟩; refine ⟨_, rfl, ?_⟩; have n0_ := Aside0.mk (below_step (by repeat (first | (with_reducible first | exact HB.out | apply below_alloc | apply pw_below_drewN | apply below_drew1) | exact HB.out)) hb); clear HB HO; have HB := n0_; clear n0_ hb))
      refine (HRUN.out _ HB.out).mono ?_
      rintro e w12 ⟨⟨rv, rfl⟩, hcell, hb⟩
      clear HB
      have HB := Aside0.mk hb
      clear hb
      go_wp2
      go_ret2
      exact ⟨by first | rfl | simp, HB.out⟩
  · rw [decide_eq_false hc] at hv
    rw [if_neg hc] at h
    have HV := Aside0.mk hv
    simp only [Option.some.injEq, Prod.mk.injEq] at h
    obtain ⟨rfl, rfl⟩ := h
    clear hv hc
    go_enter Tryd.func12, Tryd.ntmps12
    go_wp2_with (first | ((with_reducible refine gate_dst (N := 9) rfl ?_); refine Kd.R_lit (Kd.int .i64) _ 3 ?hg (N := 9) ?hd (xs := ([a1] : List Int)) (inner := [.int .i64 a1]) (ok := fun _ => True) (okp := fun _ => True) ?hr ?hp (fun _ hk => hk) trivial (Below.refl _ _) (Nat.le_refl _) (by simp) ?_; (case hd => rfl); (case hg => rfl); (case hr => first | (go_simp; done) | (go_simp; rfl)); (case hp => exact (Reps.one (show Kd.M (Kd.int .i64) _ _ _ a1 [.int .i64 a1] from rfl) (Reps.none _ _))); intro v1002 w7 ho8 hb hg_ hnew_; clear hg_ hnew_; rw [← HY.out] at ho8; have n0_ := Aside0.mk (Kd.R_lower ho8 (below_size (by repeat (first | (with_reducible first | exact HB.out | apply below_alloc | apply pw_below_drewN | apply below_drew1) | exact HB.out)))); have n1_ := Aside0.mk (below_step (by repeat (first | (with_reducible first | exact HB.out | apply below_alloc | apply pw_below_drewN | apply below_drew1) | exact HB.out)) hb); clear HB; have HO := n0_; have HB := n1_; clear n0_ n1_; clear hb ho8; obtain ⟨Ao9, co9, eo9⟩ := Kd.R_slice HO.out; subst eo9) | ((with_reducible refine gate_callee (f := 28) rfl ?_); refine goesL_ (some 10) rfl rfl Tryd.func28 (by kernel_rfl) rfl #[.int .i64 a0, .slice Ao9 y.length co9] rfl (by (try simp only [List.map_toArray, List.map_cons, List.map_nil]); first | done | rfl) ?_; (with_reducible refine (canon_circle_valid.calls a0 _ _ y false _ ?side1 ?side2 HV.out).mono ?_); (case side1 => repeat (first | exact (Kd.R_reads' HO.out).2.2 | (with_reducible refine Kd.C_alloc ?_ _) | (with_reducible refine Kd.C_drewN ?_ _) | (with_reducible refine Kd.C_drew ?_))); (case side2 => exact (Kd.R_reads' HO.out).2.1); rintro e w10 ⟨rfl, hb⟩; refine ⟨_, rfl, ?_⟩; have n0_ := Aside0.mk (below_step (by repeat (first | (with_reducible first | exact HB.out | apply below_alloc | apply pw_below_drewN | apply below_drew1) | exact HB.out)) hb); clear HB HO; have HB := n0_; clear n0_ hb))
    go_ret2
    exact ⟨by first | rfl | simp, (by repeat (first | (with_reducible first | exact HB.out | apply below_alloc | apply pw_below_drewN | apply below_drew1) | exact HB.out))⟩

end Go.Proofs.YtkidgakjeahebaaDoor.P
namespace Go.Proofs.YtkidgakjeahebaaDoor.P
open Go.RowKit Go.Proofs.YtkidgakjeahebaaDoorW.PrintWords Go.Proofs.YtkidgakjeahebaaDoorW.PrintLast Go.Proofs.YtkidgakjeahebaaDoorW.PrintMore
attribute [local go_sem] max2_int min2_int max_two min_two max_three min_three max_four min_four   -- for this text's walks alone
set_option linter.unusedVariables false
set_option linter.unusedSimpArgs false

/-! slices.IndexFunc and ContainsFunc at ints, whatever the predicate -/
def idxPY (p : Int → Bool) (l : List Int) : Int := if l.any p then (l.findIdx p : Int) else -1
/-- Called with a number in any later world, the function value answers as p does; it only draws. -/
def GivesBoolY (g : Nat) (lb : Array Value) (p : Int → Bool) (w : World) : Prop :=
  ∀ (W : World) (x : Int), Below w.heap.size w W → Calls Tryd.prog g (#[.int .i64 x] ++ lb) W fun e w' => e = .returned (.bool (p x)) ∧ Drawn0 W w'
set_option maxHeartbeats 2000000 in
set_option maxRecDepth 100000 in
theorem IndexFunc_callsY (p : Int → Bool) (g : Nat) (lb : Array Value) (eg : ∀ args w, (callFunc g args).run Tryd.prog w = .ok (.enter g args) w) (A0 : Option Addr) (c0 : Nat) (l0 : List Int) (w : World)
    (hr0 : Kd.C (Kd.int .i64) w A0 l0.length l0) (hp : GivesBoolY g lb p w) (hm : l0.length ≤ 9223372036854775807) :
    Calls Tryd.prog 91 #[.slice A0 l0.length c0, .func (.func g) #[] lb] w fun e w' => e = .returned (.int .i64 (idxPY p l0)) ∧ Drawn0 w w' := by
  have HR := Aside0.mk hr0
  have hpAt : ∀ (x : Int) (q : Nat), Calls Tryd.prog g (#[.int .i64 x] ++ lb) (w.drewN q) fun e w' => e = .returned (.bool (p x)) ∧ Drawn0 (w.drewN q) w' := fun x q => hp _ x (pw_below_drewN (Below.refl _ w) q)
  have HP := Aside0.mk hpAt
  clear hp hpAt hr0
  go_enter Tryd.func91, Tryd.ntmps91
  go_wp2
  go_loopg [8] l0.length (fun gg s8 wr => ∃ (kk q : Nat), s8 = .int .i64 kk ∧ wr = w.drewN q ∧ Aside0 (kk + gg = l0.length) ∧ Aside0 ((l0.take kk).any p = false))
  case atStart => exact ⟨0, 0, rfl, rfl, ⟨by omega⟩, ⟨by simp⟩⟩
  case round =>
    obtain ⟨kk, q, rfl, rfl, HK, HA⟩ := hrel
    by_cases hlt : kk < l0.length
    · have hltz : (kk : Int) < (l0.length : Int) := by omega
      obtain ⟨ad, ead, hcell0⟩ := Kd.at_int HR.out (kk : Int) (by omega) hltz
      rw [rd_get hlt] at hcell0
      rw [Int.toNat_natCast] at hcell0
      cases ead
      generalize hy : l0[kk] = y at hcell0
      have Hy := Aside0.mk hy
      clear hy
      have hcall := HP.out y
      have hsplit : l0 = l0.take kk ++ y :: l0.drop (kk + 1) := by
        rw [← Hy.out]
        conv => lhs; rw [← List.take_append_drop kk l0]
        rw [List.drop_eq_getElem_cons hlt]
      have HS := Aside0.mk hsplit
      clear hsplit
      cases hq : p y with
      | true =>
        have Hq := Aside0.mk hq
        rw [hq] at hcall
        clear hq
        go_wp2_with (refine (hcall _).mono ?_; rintro e w' ⟨rfl, ⟨q', rfl⟩⟩)
        go_ret
        have h1 : l0.any p = true := by rw [HS.out]; simp [Hq.out]
        have h2 : l0.findIdx p = kk := by
          rw [HS.out, List.findIdx_append]
          have h3 : (l0.take kk).findIdx p = (l0.take kk).length := List.findIdx_eq_length.2 (fun x hx => by
            have := HA.out; rw [List.any_eq_false] at this; simpa using this x hx)
          have h4 : (l0.take kk).length = kk := by rw [List.length_take]; omega
          rw [h3, if_neg (by omega), List.findIdx_cons, Hq.out, h4]
          simp
        refine ⟨?_, ⟨_, rfl⟩⟩
        unfold idxPY
        rw [h1, if_pos rfl, h2]; rfl
      | false =>
        have Hq := Aside0.mk hq
        rw [hq] at hcall
        clear hq
        go_wp2_with (refine (hcall _).mono ?_; rintro e w' ⟨rfl, ⟨q', rfl⟩⟩)
        go_roundg (gk - 1)
        case measure => have := HK.out; omega
        case rel =>
          refine ⟨kk + 1, _, by go_num, rfl, ⟨by have := HK.out; omega⟩, ⟨?_⟩⟩
          rw [List.take_succ_eq_append_getElem hlt, List.any_append, HA.out, Hy.out]
          simp [Hq.out]
    · have hltz : ¬ (kk : Int) < (l0.length : Int) := by omega
      have h0 : l0.any p = false := by
        have h := HA.out
        rwa [List.take_of_length_le (by omega)] at h
      have H0 := Aside0.mk h0
      clear h0
      go_wp2
      go_ret
      refine ⟨?_, ⟨_, rfl⟩⟩
      unfold idxPY
      rw [H0.out, if_neg (by simp)]; rfl
set_option maxHeartbeats 1000000 in
theorem ContainsFunc_callsY (p : Int → Bool) (g : Nat) (lb : Array Value) (eg : ∀ args w, (callFunc g args).run Tryd.prog w = .ok (.enter g args) w) (A0 : Option Addr) (c0 : Nat) (l0 : List Int) (w : World)
    (hr0 : Kd.C (Kd.int .i64) w A0 l0.length l0) (hp : GivesBoolY g lb p w) (hm : l0.length ≤ 9223372036854775807) :
    Calls Tryd.prog 76 #[.slice A0 l0.length c0, .func (.func g) #[] lb] w fun e w' => e = .returned (.bool (l0.any p)) ∧ Drawn0 w w' := by
  have HC := Aside0.mk (IndexFunc_callsY p g lb eg A0 c0 l0 w hr0 hp hm)
  clear hp hr0
  go_enter Tryd.func76, Tryd.ntmps76
  cases hq : l0.any p with
  | true =>
    have Hq := Aside0.mk hq
    have hc := HC.out
    rw [show idxPY p l0 = ((l0.findIdx p : Nat) : Int) by unfold idxPY; rw [hq, if_pos rfl]] at hc
    have hpos : (0 : Int) ≤ ((l0.findIdx p : Nat) : Int) := by omega
    clear hq
    go_wp2_with (go_at_call 91; refine hc.mono ?_; rintro e w' ⟨rfl, ⟨q', rfl⟩⟩)
    go_ret
    exact ⟨by simp, ⟨_, rfl⟩⟩
  | false =>
    have Hq := Aside0.mk hq
    have hc := HC.out
    rw [show idxPY p l0 = -1 by unfold idxPY; rw [hq, if_neg (by simp)]] at hc
    clear hq
    go_wp2_with (go_at_call 91; refine hc.mono ?_; rintro e w' ⟨rfl, ⟨q', rfl⟩⟩)
    go_ret
    exact ⟨by simp, ⟨_, rfl⟩⟩

end Go.Proofs.YtkidgakjeahebaaDoor.P
namespace Go.Proofs.YtkidgakjeahebaaDoor.P
open Go.RowKit Go.Proofs.YtkidgakjeahebaaDoorW.PrintWords Go.Proofs.YtkidgakjeahebaaDoorW.PrintLast Go.Proofs.YtkidgakjeahebaaDoorW.PrintMore
attribute [local go_sem] max2_int min2_int max_two min_two max_three min_three max_four min_four   -- for this text's walks alone
set_option linter.unusedVariables false
set_option linter.unusedSimpArgs false

/-! polynomial.zero -/
def notZ (c : Int) : Bool := decide (c ≠ 0)
def canon_polynomial_zero.f (l0 : List Int) : Option Bool := some (!(l0.any notZ))
theorem notZ_gives (w : World) : GivesBoolY 77 #[] notZ w := by
  intro W x hb
  show Calls Tryd.prog 77 #[.int .i64 x] W _
  by_cases h : x = 0
  · have hz : (x != 0) = false := by simp [h]
    have hf : notZ x = false := decide_eq_false (fun e => e h)
    have HF := Aside0.mk hf
    clear h hf
    go_enter Tryd.func77, Tryd.ntmps77
    go_wp2
    go_ret
    exact ⟨by rw [HF.out]; first | rfl | simp [hz], Drawn0.refl _⟩
  · have hz : (x != 0) = true := by simp [h]
    have hf : notZ x = true := decide_eq_true h
    have HF := Aside0.mk hf
    clear h hf
    go_enter Tryd.func77, Tryd.ntmps77
    go_wp2
    go_ret
    exact ⟨by rw [HF.out]; first | rfl | simp [hz], Drawn0.refl _⟩
theorem canon_polynomial_zero.calls (A0 : Option Addr) (c0 : Nat) (l0 : List Int) (r : Bool) (w : World) (hr0 : Kd.C (Kd.int .i64) w A0 l0.length l0) (hc0 : l0.length ≤ c0) (h : canon_polynomial_zero.f l0 = some r) :
    Calls Tryd.prog 63 #[.slice A0 l0.length c0] w fun e w' => e = .returned (.bool r) ∧ Below w.heap.size w w' := by
  unfold canon_polynomial_zero.f at h
  injection h with h
  have HC := Aside0.mk (ContainsFunc_callsY notZ 77 #[] (enters_of Tryd.func77 (by kernel_rfl) rfl) A0 c0 l0 w hr0 (notZ_gives w) hr0.2.1)
  have H := Aside0.mk h
  clear hr0 h
  cases hq : l0.any notZ with
  | true =>
    rw [hq] at HC H
    clear hq
    go_enter Tryd.func63, Tryd.ntmps63
    go_wp2_with (go_at_call 76; refine HC.out.mono ?_; rintro e w' ⟨rfl, ⟨q', rfl⟩⟩)
    go_ret
    exact ⟨by rw [← H.out]; rfl, pw_below_drewN (Below.refl _ _) q'⟩
  | false =>
    rw [hq] at HC H
    clear hq
    go_enter Tryd.func63, Tryd.ntmps63
    go_wp2_with (go_at_call 76; refine HC.out.mono ?_; rintro e w' ⟨rfl, ⟨q', rfl⟩⟩)
    go_ret
    exact ⟨by rw [← H.out]; rfl, pw_below_drewN (Below.refl _ _) q'⟩

end Go.Proofs.YtkidgakjeahebaaDoor.P
namespace Go.Proofs.YtkidgakjeahebaaDoor.P
open Go.RowKit Go.Proofs.YtkidgakjeahebaaDoorW.PrintWords Go.Proofs.YtkidgakjeahebaaDoorW.PrintLast Go.Proofs.YtkidgakjeahebaaDoorW.PrintMore
attribute [local go_sem] max2_int min2_int max_two min_two max_three min_three max_four min_four   -- for this text's walks alone
set_option linter.unusedVariables false
set_option linter.unusedSimpArgs false

/-! ### canon_circle_of: function 60 -/
def canon_circle_of.l0 : Nat → Int → List Int → Int → Int → Option (List Int)
  | 0, _, _, _, _ => none
  | k + 1, x1, x5, x10, x11 => if x11 < x10 then (if 0 ≤ x11 then (if x11 < (x5.length : Int) then (canon_circle_of.l0 k x1 (x5.set (x11 : Int).toNat (Go.bits .and .i64 (shr .i64 x1 x11) 1)) x10 (wrap64 (x11 + 1))) else (none)) else (none)) else (some x5)
def canon_circle_of.f (k : Nat) (a0 : Int) (a1 : Int) : Option (List Int) := if 0 ≤ a0 then (if (a0 : Int).toNat ≤ 35184372088832 then ((some (List.replicate (a0 : Int).toNat 0 : List Int)).bind fun y1001 => (canon_circle_of.l0 k a1 y1001 (y1001.length : Int) 0)) else (none)) else (none)
theorem canon_circle_of.mono_l : ∀ k, (∀ y0 y1 y2 y3, LeO (canon_circle_of.l0 k y0 y1 y2 y3) (canon_circle_of.l0 (k + 1) y0 y1 y2 y3))
  | 0 => fun _ _ _ _ r h => by simp [canon_circle_of.l0] at h
  | k + 1 => by
    have ih0 := canon_circle_of.mono_l k
    · intro y0 y1 y2 y3
      unfold canon_circle_of.l0
      repeat' first
      | (with_reducible exact ih0 _ _ _ _)
      | (with_reducible exact LeO.refl _)
      | (with_reducible exact LeO.none _)
      | (with_reducible refine LeO.ite ?_ ?_)
      | (with_reducible refine LeO.bind ?_ (fun _ => ?_))
      | exact ih0 _ _ _ _
      | exact LeO.none _
      | refine LeO.ite ?_ ?_
      | refine LeO.bind ?_ (fun _ => ?_)
theorem canon_circle_of.mono : ∀ a0 a1 k, LeO (canon_circle_of.f k a0 a1) (canon_circle_of.f (k + 1) a0 a1) := by
  intro a0 a1 k
  have ih0 := canon_circle_of.mono_l k
  unfold canon_circle_of.f
  repeat' first
      | (with_reducible exact ih0 _ _ _ _)
      | (with_reducible exact LeO.refl _)
      | (with_reducible exact LeO.none _)
      | (with_reducible refine LeO.ite ?_ ?_)
      | (with_reducible refine LeO.bind ?_ (fun _ => ?_))
      | exact ih0 _ _ _ _
      | exact LeO.none _
      | refine LeO.ite ?_ ?_
      | refine LeO.bind ?_ (fun _ => ?_)
set_option maxHeartbeats 8000000 in
set_option maxRecDepth 100000 in
theorem canon_circle_of.calls (k : Nat) (a0 : Int) (a1 : Int) (r : List Int) (w : World) (h : canon_circle_of.f k a0 a1 = some r) :
    Calls Tryd.prog 60 #[.int .i64 a0, .int .i64 a1] w fun e w' => ∃ v0_ : Value, e = .returned (v0_) ∧ Kd.R (Kd.int .i64) 3 w' w.heap.size (fun _ => True) v0_ r ∧ Below w.heap.size w w' := by
  have HB := Aside0.mk (Below.refl w.heap.size w)
  have H : (if 0 ≤ a0 then (if (a0 : Int).toNat ≤ 35184372088832 then ((some (List.replicate (a0 : Int).toNat 0 : List Int)).bind fun y1001 => (canon_circle_of.l0 k a1 y1001 (y1001.length : Int) 0)) else (none)) else (none)) = some r := h
  clear h
  by_cases c3 : 0 ≤ a0
  · rw [if_pos c3] at H
    have c3b0 := eq_true c3
    have c3b1 : decide (0 ≤ a0) = true := decide_eq_true c3
    clear c3
    by_cases c4 : (a0 : Int).toNat ≤ 35184372088832
    · rw [if_pos c4] at H
      have c4b0 := eq_true c4
      have c4b1 : decide ((a0 : Int).toNat ≤ 35184372088832) = true := decide_eq_true c4
      clear c4
      obtain ⟨y1001, hy1001⟩ : ∃ y_ : List Int, y_ = (List.replicate (a0 : Int).toNat 0) := ⟨_, rfl⟩
      replace H : (canon_circle_of.l0 k a1 y1001 (y1001.length : Int) 0) = some r := by first | (rw [hy1001]; with_reducible exact H) | (have H2_ := (Option.bind_some _ _).symm.trans H; rw [hy1001]; with_reducible exact H2_) | (have H2_ := (Option.bind_some _ _).symm.trans H; with_reducible exact H2_) | with_reducible exact H | (rw [hy1001]; exact H) | exact H
      have Ny1001 := Aside0.mk hy1001
      clear hy1001
      have H' := Aside0.mk H
      clear H
      go_enter Tryd.func60, Tryd.ntmps60
      go_wp2_with (first | ((with_reducible refine gate_dst (N := 8) rfl ?_); refine Kd.R_make (Kd.int .i64) _ 3 rfl (N := 8) rfl 62 _ _ rfl a0 rfl rfl Tryd.underlying62 (.int .i64 0) 8 info3 rfl (by decide) (by omega) 0 (ok := fun _ => True) (okp := fun _ => True) rfl (fun _ hk => hk) trivial (of_decide_eq_true (by first | (with_reducible assumption) | assumption)) (Nat.le_trans (Nat.mul_le_mul_right _ (of_decide_eq_true (by first | (with_reducible assumption) | assumption) : a0.toNat ≤ 35184372088832)) (by omega)) (Below.refl _ _) (Nat.le_refl _) ?_; intro v1002 w5 ho6 hb hg_ hnew_; clear hg_ hnew_; (first | rw [← Ny1001.out] at ho6 | (simp only [Int.reduceToNat] at ho6; rw [← Ny1001.out] at ho6)); have n0_ := Aside0.mk (Kd.R_lower ho6 (below_size (by repeat (first | (with_reducible first | exact HB.out | apply below_alloc | apply pw_below_drewN | apply below_drew1) | exact HB.out)))); have n1_ := Aside0.mk (below_step (by repeat (first | (with_reducible first | exact HB.out | apply below_alloc | apply pw_below_drewN | apply below_drew1) | exact HB.out)) hb); clear HB; have HO1003 := n0_; have HB := n1_; clear n0_ n1_; clear hb ho6; obtain ⟨Ao7, co7, eo7⟩ := Kd.R_slice HO1003.out; subst eo7))
      go_loopg [11] k (fun kq v11 w' => ∃ (x5_1 : List Int) (x11_1 : Int), v11 = .int .i64 x11_1 ∧ Aside0 (canon_circle_of.l0 kq a1 x5_1 (y1001.length : Int) x11_1 = some r) ∧ Aside0 (kq ≤ k) ∧ Aside0 (Kd.R (Kd.int .i64) 3 w' w.heap.size (fun _ => True) (.slice Ao7 y1001.length co7) x5_1) ∧ Aside0 (Below w.heap.size w w'))
      case atStart => exact ⟨(y1001), (0), (by first | rfl | (simp; done) | (simp [*]; done)), H', ⟨Nat.le_refl _⟩, ⟨by (with_reducible repeat (first | apply Kd.R_alloc | apply Kd.R_drewN | apply Kd.R_drew)); exact HO1003.out⟩, ⟨by repeat (first | (with_reducible first | exact HB.out | apply below_alloc | apply pw_below_drewN | apply below_drew1) | exact HB.out)⟩⟩
      case round =>
        clear H'
        try clear p2
        try clear c3
        try clear c3b0
        try clear c3b1
        try clear c4
        try clear c4b0
        try clear c4b1
        try clear c6
        obtain ⟨x5_1, x11_1, rfl, HA, HK1, HO_5, HB⟩ := hrel
        have hl5_1 := (Kd.R_reads' HO_5.out).1
        rw [hl5_1] at HO_5
        (try simp only [hl5_1])
        cases gk with
        | zero => exact absurd HA.out (by simp [canon_circle_of.l0])
        | succ k1 =>
          have H := HA.out
          clear HA
          simp only [canon_circle_of.l0] at H
          by_cases c8 : x11_1 < (y1001.length : Int)
          · rw [if_pos c8] at H
            have c8b0 : decide (x11_1 < (y1001.length : Int)) = true := decide_eq_true c8
            have c8b0z := c8b0
            (try simp only [hl5_1] at c8b0z)
            clear c8
            by_cases c9 : 0 ≤ x11_1
            · rw [if_pos c9] at H
              have c9b0 := eq_true c9
              have c9b1 : decide (0 ≤ x11_1) = true := decide_eq_true c9
              clear c9
              obtain ⟨ji10, hji10⟩ : ∃ j_ : Int, (shr .i64 a1 x11_1) = j_ := ⟨_, rfl⟩
              replace H : (if x11_1 < (x5_1.length : Int) then (canon_circle_of.l0 k1 a1 (x5_1.set (x11_1 : Int).toNat (Go.bits .and .i64 (ji10) 1)) (y1001.length : Int) (wrap64 (x11_1 + 1))) else (none)) = some r := by first | (rw [hji10] at H; exact H) | (simp only [hji10] at H ⊢; exact H)
              have hji10_ : (a1 / 2 ^ min x11_1.toNat 64) = ji10 := hji10
              have hji10z : x11_1 ≤ 64 → (a1 / 2 ^ x11_1.toNat) = ji10 := shr_small hji10
              by_cases c11 : x11_1 < (x5_1.length : Int)
              · rw [if_pos c11] at H
                have c11b0 : decide (x11_1 < (x5_1.length : Int)) = true := decide_eq_true c11
                have c11b0z := c11b0
                (try simp only [hl5_1] at c11b0z)
                clear c11
                obtain ⟨y1004, hy1004⟩ : ∃ y_ : List Int, y_ = (x5_1.set (x11_1 : Int).toNat (Go.bits .and .i64 (ji10) 1)) := ⟨_, rfl⟩
                replace H : (canon_circle_of.l0 k1 a1 y1004 (y1001.length : Int) (wrap64 (x11_1 + 1))) = some r := by first | (rw [hy1004]; with_reducible exact H) | (have H2_ := (Option.bind_some _ _).symm.trans H; rw [hy1004]; with_reducible exact H2_) | (have H2_ := (Option.bind_some _ _).symm.trans H; with_reducible exact H2_) | with_reducible exact H | (rw [hy1004]; exact H) | exact H
                have Ny1004 := Aside0.mk hy1004
                clear hy1004
                have H' := Aside0.mk H
                clear H
                have p12 : 0 ≤ (x11_1 : Int) := of_decide_eq_true (by first | (with_reducible assumption) | assumption)
                have q12 : (x11_1 : Int) < ((x5_1.length : Int) : Int) := of_decide_eq_true (by first | (with_reducible assumption) | assumption)
                obtain ⟨go12, co12, eo12, gb12, gl12, cl12, HG12⟩ := Kd.R_form HO_5.out (by omega)
                (first | cases eo12 | (injection eo12 with ea_ en_ ec_; (first | subst ea_ | (injection ea_ with ea_; subst ea_)); subst ec_; clear en_))
                have GB12 := Aside0.mk gb12
                have GG12 := Aside0.mk HG12
                clear gb12 gl12 HG12
                obtain ⟨hx12_0, hf12_0⟩ := Kd.R_celln 0 HO_5.out (x11_1 : Int) p12 q12
                replace p12 := eq_true p12
                replace q12 := eq_true q12
                have HP13 := Kd.R_putg HO_5.out (x11_1 : Int) (Go.bits .and .i64 (ji10) 1)
                go_wp2_with (first | ((with_reducible refine gate_store (t := 3) (p := 20) rfl ?_); refine store_event (t := 3) (p := 20) (v := ?vo_w14) (w1 := (wr.setCell ⟨go12, (x11_1 : Int).toNat, none⟩ (.int .i64 (Go.bits .and .i64 (ji10) 1)))) ?hg ?ho ?hn ?hr ?_; (case ho => rfl); (case hg => rfl); (case hn => rfl); (case hr => first | (go_simp; done) | (go_simp; rfl)); intro w14 hw; have hg : wr.grownBy w14 (some go12) := (by rw [hw]; exact HP13.2); have hp_ : Kd.R (Kd.int .i64) 3 w14 w.heap.size (fun _ => True) (.slice (some ⟨go12, 0, none⟩) x5_1.length co7) y1004 := (by rw [hw, Ny1004.out]; exact HP13.1); clear HP13; have n0_ := Aside0.mk (hp_); have n1_ := Aside0.mk ((by rw [hw]; exact below_set (HB.out) GB12.out : Below w.heap.size w w14)); clear HO_5; clear HB; have HO_5 := n0_; have HB := n1_; clear n0_ n1_; clear hg hw hp_))
                (try simp only [← hl5_1])
                go_roundg k1
                case measure => have := HK1.out; omega
                case rel => exact ⟨(y1004), (wrap64 (x11_1 + 1)), (by first | rfl | (simp; done) | (simp [*]; done)), H', ⟨by have := HK1.out; omega⟩, ⟨by (try simp only [hl5_1]); (with_reducible repeat (first | apply Kd.R_alloc | apply Kd.R_drewN | apply Kd.R_drew)); exact HO_5.out⟩, ⟨by repeat (first | (with_reducible first | exact HB.out | apply below_alloc | apply pw_below_drewN | apply below_drew1) | exact HB.out)⟩⟩
              · rw [if_neg c11] at H
                exact absurd H (by simp)
            · rw [if_neg c9] at H
              exact absurd H (by simp)
          · rw [if_neg c8] at H
            have c8b0 : decide (x11_1 < (y1001.length : Int)) = false := decide_eq_false c8
            have c8b0z := c8b0
            (try simp only [hl5_1] at c8b0z)
            clear c8
            obtain rfl := Option.some.inj H
            go_wp2
            go_ret
            exact ⟨_, by first | rfl | (simp [errW_none, errW_some] <;> rfl) | (simp [*, errW_none, errW_some] <;> rfl), by (with_reducible repeat (first | apply Kd.R_alloc | apply Kd.R_drewN | apply Kd.R_drew)); exact HO_5.out, by repeat (first | (with_reducible first | exact HB.out | apply below_alloc | apply pw_below_drewN | apply below_drew1) | exact HB.out)⟩
    · rw [if_neg c4] at H
      exact absurd H (by simp)
  · rw [if_neg c3] at H
    exact absurd H (by simp)

end Go.Proofs.YtkidgakjeahebaaDoor.P
namespace Go.Proofs.YtkidgakjeahebaaDoor.P
open Go.RowKit Go.Proofs.YtkidgakjeahebaaDoorW.PrintWords Go.Proofs.YtkidgakjeahebaaDoorW.PrintLast Go.Proofs.YtkidgakjeahebaaDoorW.PrintMore
attribute [local go_sem] max2_int min2_int max_two min_two max_three min_three max_four min_four   -- for this text's walks alone
set_option linter.unusedVariables false
set_option linter.unusedSimpArgs false

def canon_polynomial_int_74.f (l0 : List Int) : Option (List Int) := if l0.length < 17592186044416 then some l0 else none
set_option maxHeartbeats 2000000 in
set_option maxRecDepth 100000 in
theorem canon_polynomial_int_74.calls (A0 : Option Addr) (c0 : Nat) (l0 : List Int) (r : List Int) (w : World) (hr0 : Kd.C (Kd.int .i64) w A0 l0.length l0) (hc0 : l0.length ≤ c0) (h : canon_polynomial_int_74.f l0 = some r) :
    Calls Tryd.prog 74 #[.slice A0 l0.length c0] w fun e w' => ∃ v0_ : Value, e = .returned (v0_) ∧ Kd.R (Kd.int .i64) 3 w' w.heap.size (fun _ => True) v0_ r ∧ Below w.heap.size w w' := by
  unfold canon_polynomial_int_74.f at h
  have hl : l0.length < 17592186044416 := by
    rcases Nat.lt_or_ge l0.length 17592186044416 with hl | hl
    · exact hl
    · rw [if_neg (by omega)] at h; cases h
  rw [if_pos hl] at h
  obtain rfl := Option.some.inj h
  have HR0 := Aside0.mk hr0
  clear hr0 h
  have q22 : ∀ (w : World) (a : Option Addr) (n c n' c' : Nat), (binOp .eql 62 (.slice a n c) (.slice none n' c')).run Tryd.prog w = .ok (.bool a.isNone) w := fun w a n c n' c' => Lib.run_eql_slice_nil w _ _ a n c n' c' Tryd.underlying62
  cases A0 with
  | none =>
    have hz : l0 = [] := by
      cases l0 with
      | nil => rfl
      | cons x xs =>
        obtain ⟨ad, e1, _⟩ := Kd.at_int HR0.out 0 (by omega) (by simp only [List.length_cons]; omega)
        cases e1
    subst hz
    go_enter Tryd.func74, Tryd.ntmps74
    go_wp2
    go_ret
    exact ⟨_, rfl, Kd.R_nil _ _ _ _ _, Below.refl _ _⟩
  | some a0 =>
    go_enter Tryd.func74, Tryd.ntmps74
    have HN : Kd.R (Kd.int .i64) 3 (w.alloc (.cells #[] 3)) w.heap.size (fun _ => True) (.slice (some ⟨w.heap.size, 0, none⟩) 0 0) [] :=
      Kd.R_of_own (h1 := fun _ => rfl) (World.ownsRow_lit (base := w.heap.size) (e := 3) (size := 1) w #[] 0 (Nat.le_refl _) (by simp [maxLen]) (by simp)) (fun _ _ => trivial)
    have HNa := Aside0.mk HN
    clear HN
    go_wp2_with (at_builtin; refine Kd.R_append_rows (Kd.int .i64) (w0 := w) w.heap.size rfl (.tmp 5) (.tmp 6) 62 3 (.int .i64 0) 8 rfl Tryd.underlying62 info3 rfl (by decide) (by omega) (.slice (some ⟨w.heap.size, 0, none⟩) 0 0) [] l0 _ _ _ (fun _ => True) (fun _ => False) rfl rfl ?aO ?aR (fun _ _ h => h) (fun _ h => h.elim) ?aF ?aB ?aS ?aL ?_; (case aR => exact Kd.C_below HR0.out (below_alloc (Below.refl _ _) _)); (case aB => exact below_alloc (Below.refl _ _) _); (case aF => exact (fun _ _ => trivial)); (case aO => exact HNa.out); (case aS => simp); (case aL => simp; omega); intro v1 w2 ho hb hg hat; have HO := Aside0.mk ho; have HB := Aside0.mk hb; clear ho hb hg hat; obtain ⟨A9, c9, e9⟩ := Kd.R_slice HO.out; subst e9)
    go_wp2
    go_ret
    exact ⟨_, rfl, HO.out, HB.out⟩

end Go.Proofs.YtkidgakjeahebaaDoor.P
namespace Go.Proofs.YtkidgakjeahebaaDoor.P
open Go.RowKit Go.Proofs.YtkidgakjeahebaaDoorW.PrintWords Go.Proofs.YtkidgakjeahebaaDoorW.PrintLast Go.Proofs.YtkidgakjeahebaaDoorW.PrintMore
attribute [local go_sem] max2_int min2_int max_two min_two max_three min_three max_four min_four   -- for this text's walks alone
set_option linter.unusedVariables false
set_option linter.unusedSimpArgs false

/-! ### canon_polynomial_int_75: function 75 -/
def canon_polynomial_int_75.l0 : Nat → List Int → Int → Int → Option (List Int)
  | 0, _, _, _ => none
  | k + 1, x0, x2, x3 => if x2 < x3 then (if 0 ≤ x3 then (if x3 < (x0.length : Int) then (if 0 ≤ x2 then (if x2 < (x0.length : Int) then (canon_polynomial_int_75.l0 k ((x0.set (x2 : Int).toNat (rd x0 x3)).set (x3 : Int).toNat (rd x0 x2)) (wrap64 (x2 + 1)) (wrap64 (x3 - 1))) else (none)) else (none)) else (none)) else (none)) else (some x0)
def canon_polynomial_int_75.f (k : Nat) (l0 : List Int) : Option (List Int) := canon_polynomial_int_75.l0 k l0 0 (wrap64 ((l0.length : Int) - 1))
theorem canon_polynomial_int_75.mono_l : ∀ k, (∀ y0 y1 y2, LeO (canon_polynomial_int_75.l0 k y0 y1 y2) (canon_polynomial_int_75.l0 (k + 1) y0 y1 y2))
  | 0 => fun _ _ _ r h => by simp [canon_polynomial_int_75.l0] at h
  | k + 1 => by
    have ih0 := canon_polynomial_int_75.mono_l k
    · intro y0 y1 y2
      unfold canon_polynomial_int_75.l0
      repeat' first
      | (with_reducible exact ih0 _ _ _)
      | (with_reducible exact LeO.refl _)
      | (with_reducible exact LeO.none _)
      | (with_reducible refine LeO.ite ?_ ?_)
      | (with_reducible refine LeO.bind ?_ (fun _ => ?_))
      | exact ih0 _ _ _
      | exact LeO.none _
      | refine LeO.ite ?_ ?_
      | refine LeO.bind ?_ (fun _ => ?_)
theorem canon_polynomial_int_75.mono : ∀ a0 k, LeO (canon_polynomial_int_75.f k a0) (canon_polynomial_int_75.f (k + 1) a0) := by
  intro a0 k
  have ih0 := canon_polynomial_int_75.mono_l k
  unfold canon_polynomial_int_75.f
  repeat' first
      | (with_reducible exact ih0 _ _ _)
      | (with_reducible exact LeO.refl _)
      | (with_reducible exact LeO.none _)
      | (with_reducible refine LeO.ite ?_ ?_)
      | (with_reducible refine LeO.bind ?_ (fun _ => ?_))
      | exact ih0 _ _ _
      | exact LeO.none _
      | refine LeO.ite ?_ ?_
      | refine LeO.bind ?_ (fun _ => ?_)
def canon_polynomial_int_75.T3 : Bool × List (List Nat × List Nat) := (true, [([], []), ([], []), ([], []), ([], []), ([], []), ([], []), ([4, 5], [4, 5]), ([6], [6]), ([], []), ([], []), ([8, 9], [8, 9]), ([10], [10]), ([0, 1, 0, 1, 4, 5, 6, 7, 11], [0, 1]), ([12, 7, 0, 1, 4, 5, 6, 7, 11], [7, 12]), ([2, 3, 0, 1, 2, 3, 4, 5, 6, 7, 8, 9, 10, 11, 12, 13], [2, 3]), ([14, 11, 13, 0, 1, 2, 3, 4, 5, 6, 7, 8, 9, 10, 11, 12, 13], [11, 14])])
def canon_polynomial_int_75.B3 : List Nat := [0, 0, 0, 0, 0, 0, 48, 112, 0, 0, 768, 1792, 4083, 8179, 16383, 32767]
theorem canon_polynomial_int_75.tab3 : rtab .any (opsOf Tryd.f75 3) = canon_polynomial_int_75.T3 := by kernel_rfl
theorem canon_polynomial_int_75.bits3 : waitsOk canon_polynomial_int_75.T3.2 canon_polynomial_int_75.B3 = true := by kernel_rfl
set_option maxHeartbeats 8000000 in
set_option maxRecDepth 100000 in
theorem canon_polynomial_int_75.calls (k : Nat) (P0_ : Nat → Prop) (u9000_ : Value) (l0 : List Int) (r : List Int) (w0 w : World) (hB : Below w0.heap.size w0 w) (ho0 : Kd.R (Kd.int .i64) 3 w w0.heap.size P0_ u9000_ l0) (h : canon_polynomial_int_75.f k l0 = some r) :
    Calls Tryd.prog 75 #[u9000_] w fun e w' => e = .returned (.tuple #[]) ∧ Kd.R (Kd.int .i64) 3 w' w0.heap.size (fun k_ => (P0_ k_ ∨ w.heap.size ≤ k_)) u9000_ r ∧ Below w0.heap.size w0 w' ∧ Kept w w' (fun k_ => P0_ k_) := by
  have HO0 := Aside0.mk (show Kd.R (Kd.int .i64) 3 w w0.heap.size (fun k_ => (P0_ k_ ∨ w.heap.size ≤ k_)) u9000_ l0 from Kd.R_mono ho0 (fun k_ hk => (.inl hk)))
  have HK := Aside0.mk (Kept.refl w (fun k_ => P0_ k_))
  have HW0 := Aside0.mk hB.size
  have HB := Aside0.mk hB
  clear hB
  have H : (canon_polynomial_int_75.l0 k l0 0 (wrap64 ((l0.length : Int) - 1))) = some r := h
  clear h
  have H' := Aside0.mk H
  clear H
  obtain ⟨Ao2, co2, eo2⟩ := Kd.R_slice HO0.out
  subst eo2
  go_enter Tryd.func75, Tryd.ntmps75
  go_wp2
  go_loopg [2, 3] k (fun kq v2 v3 w' => ∃ (x0_1 : List Int) (x2_1 : Int) (x3_1 : Int), v2 = .int .i64 x2_1 ∧ v3 = .int .i64 x3_1 ∧ Aside0 (canon_polynomial_int_75.l0 kq x0_1 x2_1 x3_1 = some r) ∧ Aside0 (kq ≤ k) ∧ Aside0 (Kd.R (Kd.int .i64) 3 w' w0.heap.size (fun k_ => (P0_ k_ ∨ w.heap.size ≤ k_)) (.slice Ao2 l0.length co2) x0_1) ∧ Aside0 (Kept w w' (fun k_ => P0_ k_)) ∧ Aside0 (Below w0.heap.size w0 w'))
  case atStart => exact ⟨(l0), (0), (wrap64 ((l0.length : Int) - 1)), (by first | rfl | (simp; done) | (simp [*]; done)), (by first | rfl | (simp; done) | (simp [*]; done)), H', ⟨Nat.le_refl _⟩, ⟨by (with_reducible repeat (first | apply Kd.R_alloc | apply Kd.R_drewN | apply Kd.R_drew)); exact HO0.out⟩, ⟨by repeat (first | (with_reducible first | exact HK.out | apply Kept.alloc | apply Kept.drewN | apply Kept.drew) | exact HK.out)⟩, ⟨by repeat (first | (with_reducible first | exact HB.out | apply below_alloc | apply pw_below_drewN | apply below_drew1) | exact HB.out)⟩⟩
  case round =>
    clear H'
    try clear p2
    obtain ⟨x0_1, x2_1, x3_1, rfl, rfl, HA, HK1, HO_0, HK, HB⟩ := hrel
    have hl0_1 := (Kd.R_reads' HO_0.out).1
    rw [hl0_1] at HO_0
    (try simp only [hl0_1])
    cases gk with
    | zero => exact absurd HA.out (by simp [canon_polynomial_int_75.l0])
    | succ k1 =>
      have H := HA.out
      clear HA
      simp only [canon_polynomial_int_75.l0] at H
      by_cases c3 : x2_1 < x3_1
      · rw [if_pos c3] at H
        have c3b0 : decide (x2_1 < x3_1) = true := decide_eq_true c3
        clear c3
        by_cases c4 : 0 ≤ x3_1
        · rw [if_pos c4] at H
          have c4b0 : decide (0 ≤ x3_1) = true := decide_eq_true c4
          clear c4
          by_cases c5 : x3_1 < (x0_1.length : Int)
          · rw [if_pos c5] at H
            have c5b0 : decide (x3_1 < (x0_1.length : Int)) = true := decide_eq_true c5
            have c5b0z := c5b0
            (try simp only [hl0_1] at c5b0z)
            clear c5
            by_cases c6 : 0 ≤ x2_1
            · rw [if_pos c6] at H
              have c6b0 : decide (0 ≤ x2_1) = true := decide_eq_true c6
              clear c6
              by_cases c7 : x2_1 < (x0_1.length : Int)
              · rw [if_pos c7] at H
                have c7b0 : decide (x2_1 < (x0_1.length : Int)) = true := decide_eq_true c7
                have c7b0z := c7b0
                (try simp only [hl0_1] at c7b0z)
                clear c7
                obtain ⟨y1003, hy1003⟩ : ∃ y_ : List Int, y_ = (x0_1.set (x2_1 : Int).toNat (rd x0_1 x3_1)) := ⟨_, rfl⟩
                replace H : (canon_polynomial_int_75.l0 k1 (y1003.set (x3_1 : Int).toNat (rd x0_1 x2_1)) (wrap64 (x2_1 + 1)) (wrap64 (x3_1 - 1))) = some r := by first | (rw [hy1003]; with_reducible exact H) | (have H2_ := (Option.bind_some _ _).symm.trans H; rw [hy1003]; with_reducible exact H2_) | (have H2_ := (Option.bind_some _ _).symm.trans H; with_reducible exact H2_) | with_reducible exact H | (rw [hy1003]; exact H) | exact H
                have Ny1003 := Aside0.mk hy1003
                clear hy1003
                obtain ⟨y1004, hy1004⟩ : ∃ y_ : List Int, y_ = (y1003.set (x3_1 : Int).toNat (rd x0_1 x2_1)) := ⟨_, rfl⟩
                replace H : (canon_polynomial_int_75.l0 k1 y1004 (wrap64 (x2_1 + 1)) (wrap64 (x3_1 - 1))) = some r := by first | (rw [hy1004]; with_reducible exact H) | (have H2_ := (Option.bind_some _ _).symm.trans H; rw [hy1004]; with_reducible exact H2_) | (have H2_ := (Option.bind_some _ _).symm.trans H; with_reducible exact H2_) | with_reducible exact H | (rw [hy1004]; exact H) | exact H
                have Ny1004 := Aside0.mk hy1004
                clear hy1004
                have H' := Aside0.mk H
                clear H
                try go_wp2
                have n0_ := Aside0.mk (Kd.R_drew HO_0.out)
                have n1_ := Aside0.mk (Kept.drew HK.out)
                have n2_ := Aside0.mk (below_drew1 HB.out)
                clear HO_0
                clear HK
                clear HB
                have HO_0 := n0_
                have HK := n1_
                have HB := n2_
                clear n0_ n1_ n2_
                have p1001 : 0 ≤ (x3_1 : Int) := of_decide_eq_true (by first | (with_reducible assumption) | assumption)
                have q1001 : x3_1 < (x0_1.length : Int) := of_decide_eq_true (by first | (with_reducible assumption) | assumption)
                obtain ⟨ad1001, e1001, hx1001_0⟩ := Kd.at_int (Kd.R_reads' HO_0.out).2.2 x3_1 p1001 q1001
                cases e1001
                replace p1001 := eq_true p1001
                replace q1001 := eq_true q1001
                have p1002 : 0 ≤ (x2_1 : Int) := of_decide_eq_true (by first | (with_reducible assumption) | assumption)
                have q1002 : x2_1 < (x0_1.length : Int) := of_decide_eq_true (by first | (with_reducible assumption) | assumption)
                obtain ⟨ad1002, e1002, hx1002_0⟩ := Kd.at_int (Kd.R_reads' HO_0.out).2.2 x2_1 p1002 q1002
                obtain rfl : ad1001 = ad1002 := (by injection e1002)
                replace p1002 := eq_true p1002
                replace q1002 := eq_true q1002
                have p8 : 0 ≤ (x2_1 : Int) := of_decide_eq_true (by first | (with_reducible assumption) | assumption)
                have q8 : (x2_1 : Int) < ((x0_1.length : Int) : Int) := of_decide_eq_true (by first | (with_reducible assumption) | assumption)
                obtain ⟨go8, co8, eo8, gb8, gl8, cl8, HG8⟩ := Kd.R_form HO_0.out (by omega)
                (first | cases eo8 | (injection eo8 with ea_ en_ ec_; (first | subst ea_ | (injection ea_ with ea_; subst ea_)); subst ec_; clear en_))
                have GB8 := Aside0.mk gb8
                have GG8 := Aside0.mk HG8
                clear gb8 gl8 HG8
                have HMgo8 := Aside0.mk (show (P0_ go8 ∨ w.heap.size ≤ go8) from (HO_0.out.1 _ rfl))
                (first | simp only [add_plain] at hx1001_0 | skip)
                (first | simp only [add_plain] at hx1002_0 | skip)
                obtain ⟨hx8_0, hf8_0⟩ := Kd.R_celln 0 HO_0.out (x2_1 : Int) p8 q8
                replace p8 := eq_true p8
                replace q8 := eq_true q8
                have HP11 := Kd.R_putn HO_0.out (x2_1 : Int) (rd x0_1 x3_1)
                rw [← Ny1003.out] at HP11
                have HQ11 := Aside0.mk HP11
                clear HP11
                have p9 : 0 ≤ (x3_1 : Int) := of_decide_eq_true (by first | (with_reducible assumption) | assumption)
                have q9 : (x3_1 : Int) < ((x0_1.length : Int) : Int) := of_decide_eq_true (by first | (with_reducible assumption) | assumption)
                obtain ⟨hx9_0, hf9_0⟩ := Kd.R_celln 0 HQ11.out (x3_1 : Int) p9 q9
                replace p9 := eq_true p9
                replace q9 := eq_true q9
                have HP12 := Kd.R_putn HQ11.out (x3_1 : Int) (rd x0_1 x2_1)
                rw [← Ny1004.out] at HP12
                have HQ12 := Aside0.mk HP12
                clear HP12
                refine start_ (n := 16) (S := fun w' => w'.cell? ⟨go8, (x3_1).toNat, none⟩ = some (.int .i64 (rd x0_1 x3_1)) ∧ w'.cell? ⟨go8, (x2_1).toNat, none⟩ = some (.int .i64 (rd x0_1 x2_1))) (ds := [13, 15]) #[false, false, false, false, false, false, false, false, false, false, false, false, false, false, false, false] (by kernel_rfl) rfl rfl ⟨hx1001_0, hx1002_0⟩ (fun hHeld => ?_); refine with_tabW canon_polynomial_int_75.tab3 canon_polynomial_int_75.bits3 (fun HT_ HW_ => ?_)
                generalize wr.drew = w10 at HO_0 HK HB GG8 HQ11 HQ12 hf8_0 hf9_0 hx1001_0 hx1002_0 hx8_0 hx9_0 hHeld ⊢
                refine pure_ (i := 0) (N := some 14) (v := ?_) (a' := ?_) #[true, false, false, false, false, false, false, false, false, false, false, false, false, false, false, false] rfl rfl (any_of HT_.out (by kernel_rfl)) (fun _ _ _ h => h) (Or.inl ⟨by rfl, ?_⟩) ?_ ?_
                rotate_left
                · intro w'
                  go_simp
                  with_reducible rfl
                rotate_left
                · simp only [Act.put, List.setIfInBounds_toArray, List.set_cons_zero, List.set_cons_succ, i64_w, i32_w]
                  rfl
                refine pure_ (i := 1) (N := some 15) (v := ?_) (a' := ?_) #[true, true, false, false, false, false, false, false, false, false, false, false, false, false, false, false] rfl rfl (any_of HT_.out (by kernel_rfl)) (fun _ _ _ h => h) (Or.inl ⟨by rfl, ?_⟩) ?_ ?_
                rotate_left
                · intro w'
                  go_simp
                  with_reducible rfl
                rotate_left
                · simp only [Act.put, List.setIfInBounds_toArray, List.set_cons_zero, List.set_cons_succ, i64_w, i32_w]
                  rfl
                refine pure_ (i := 2) (N := some 16) (v := ?_) (a' := ?_) #[true, true, true, false, false, false, false, false, false, false, false, false, false, false, false, false] rfl rfl (any_of HT_.out (by kernel_rfl)) (fun _ _ _ h => h) (Or.inl ⟨by rfl, ?_⟩) ?_ ?_
                rotate_left
                · intro w'
                  go_simp
                  with_reducible rfl
                rotate_left
                · simp only [Act.put, List.setIfInBounds_toArray, List.set_cons_zero, List.set_cons_succ, i64_w, i32_w]
                  rfl
                refine pure_ (i := 3) (N := some 17) (v := ?_) (a' := ?_) #[true, true, true, true, false, false, false, false, false, false, false, false, false, false, false, false] rfl rfl (any_of HT_.out (by kernel_rfl)) (fun _ _ _ h => h) (Or.inl ⟨by rfl, ?_⟩) ?_ ?_
                rotate_left
                · intro w'
                  go_simp
                  with_reducible rfl
                rotate_left
                · simp only [Act.put, List.setIfInBounds_toArray, List.set_cons_zero, List.set_cons_succ, i64_w, i32_w]
                  rfl
                refine pure_ (i := 4) (N := some 18) (v := ?_) (a' := ?_) #[true, true, true, true, true, false, false, false, false, false, false, false, false, false, false, false] rfl rfl (any_of HT_.out (by kernel_rfl)) (fun _ _ _ h => h) (Or.inl ⟨by rfl, ?_⟩) ?_ ?_
                rotate_left
                · intro w'
                  go_simp
                  with_reducible rfl
                rotate_left
                · simp only [Act.put, List.setIfInBounds_toArray, List.set_cons_zero, List.set_cons_succ, i64_w, i32_w]
                  rfl
                refine pure_ (i := 5) (N := some 19) (v := ?_) (a' := ?_) #[true, true, true, true, true, true, false, false, false, false, false, false, false, false, false, false] rfl rfl (any_of HT_.out (by kernel_rfl)) (fun _ _ _ h => h) (Or.inl ⟨by rfl, ?_⟩) ?_ ?_
                rotate_left
                · intro w'
                  go_simp
                  with_reducible rfl
                rotate_left
                · simp only [Act.put, List.setIfInBounds_toArray, List.set_cons_zero, List.set_cons_succ, i64_w, i32_w]
                  rfl
                refine pure_ (i := 6) (N := some 20) (v := ?_) (a' := ?_) #[true, true, true, true, true, true, true, false, false, false, false, false, false, false, false, false] rfl rfl (any_of HT_.out (by kernel_rfl)) (fun _ _ _ h => h) (Or.inl ⟨by rfl, ?_⟩) ?_ ?_
                rotate_left
                · intro w'
                  go_simp
                  with_reducible rfl
                rotate_left
                · simp only [Act.put, List.setIfInBounds_toArray, List.set_cons_zero, List.set_cons_succ, i64_w, i32_w]
                  rfl
                refine pure_ (i := 8) (N := some 22) (v := ?_) (a' := ?_) #[true, true, true, true, true, true, true, false, true, false, false, false, false, false, false, false] rfl rfl (any_of HT_.out (by kernel_rfl)) (fun _ _ _ h => h) (Or.inl ⟨by rfl, ?_⟩) ?_ ?_
                rotate_left
                · intro w'
                  go_simp
                  with_reducible rfl
                rotate_left
                · simp only [Act.put, List.setIfInBounds_toArray, List.set_cons_zero, List.set_cons_succ, i64_w, i32_w]
                  rfl
                refine pure_ (i := 9) (N := some 23) (v := ?_) (a' := ?_) #[true, true, true, true, true, true, true, false, true, true, false, false, false, false, false, false] rfl rfl (any_of HT_.out (by kernel_rfl)) (fun _ _ _ h => h) (Or.inl ⟨by rfl, ?_⟩) ?_ ?_
                rotate_left
                · intro w'
                  go_simp
                  with_reducible rfl
                rotate_left
                · simp only [Act.put, List.setIfInBounds_toArray, List.set_cons_zero, List.set_cons_succ, i64_w, i32_w]
                  rfl
                refine pure_ (i := 10) (N := some 24) (v := ?_) (a' := ?_) #[true, true, true, true, true, true, true, false, true, true, true, false, false, false, false, false] rfl rfl (any_of HT_.out (by kernel_rfl)) (fun _ _ _ h => h) (Or.inl ⟨by rfl, ?_⟩) ?_ ?_
                rotate_left
                · intro w'
                  go_simp
                  with_reducible rfl
                rotate_left
                · simp only [Act.put, List.setIfInBounds_toArray, List.set_cons_zero, List.set_cons_succ, i64_w, i32_w]
                  rfl
                refine take_ (i := 7) (N := some 21) (v := ?_) (a' := ?_) #[true, true, true, true, true, true, true, true, true, true, true, false, false, false, false, false] rfl rfl (take_ofW HT_.out HW_.out (by kernel_rfl)) (fun _ _ _ h => h) (Or.inl ⟨by rfl, ?_⟩) hHeld ?_ ?_
                rotate_left
                · rintro w' ⟨s0, s1⟩
                  go_simp
                  with_reducible rfl
                rotate_left
                · simp only [Act.put, List.setIfInBounds_toArray, List.set_cons_zero, List.set_cons_succ, i64_w, i32_w]
                  rfl
                refine take_ (i := 11) (N := some 25) (v := ?_) (a' := ?_) #[true, true, true, true, true, true, true, true, true, true, true, true, false, false, false, false] rfl rfl (take_ofW HT_.out HW_.out (by kernel_rfl)) (fun _ _ _ h => h) (Or.inl ⟨by rfl, ?_⟩) hHeld ?_ ?_
                rotate_left
                · rintro w' ⟨s0, s1⟩
                  go_simp
                  with_reducible rfl
                rotate_left
                · simp only [Act.put, List.setIfInBounds_toArray, List.set_cons_zero, List.set_cons_succ, i64_w, i32_w]
                  rfl
                refine pure_ (i := 12) (N := some 26) (v := ?_) (a' := ?_) #[true, true, true, true, true, true, true, true, true, true, true, true, true, false, false, false] rfl rfl (any_of HT_.out (by kernel_rfl)) (fun _ _ _ h => h) (Or.inl ⟨by rfl, ?_⟩) ?_ ?_
                rotate_left
                · intro w'
                  go_simp
                  with_reducible rfl
                rotate_left
                · simp only [Act.put, List.setIfInBounds_toArray, List.set_cons_zero, List.set_cons_succ, i64_w, i32_w]
                  rfl
                refine last_ (i := 13) (N := none) #[true, true, true, true, true, true, true, true, true, true, true, true, true, true, false, false] rfl rfl (one_of HT_.out (by kernel_rfl)) (by decide) (fun K hK => ?_)
                refine skip_ (w1 := ?_) (by rfl) rfl ?_ ?_
                rotate_left
                · go_simp
                  rfl
                refine hK.out _ _ ?_
                clear hK K
                refine pure_ (i := 14) (N := some 27) (v := ?_) (a' := ?_) #[true, true, true, true, true, true, true, true, true, true, true, true, true, true, true, false] rfl rfl (any_of HT_.out (by kernel_rfl)) (fun _ _ _ h => h) (Or.inl ⟨by rfl, ?_⟩) ?_ ?_
                rotate_left
                · intro w'
                  go_simp
                  with_reducible rfl
                rotate_left
                · simp only [Act.put, List.setIfInBounds_toArray, List.set_cons_zero, List.set_cons_succ, i64_w, i32_w]
                  rfl
                refine last_ (i := 15) (N := none) #[true, true, true, true, true, true, true, true, true, true, true, true, true, true, true, true] rfl rfl (one_of HT_.out (by kernel_rfl)) (by decide) (fun K hK => ?_)
                refine skip_ (w1 := ?_) (by rfl) rfl ?_ ?_
                rotate_left
                · go_simp
                  rfl
                refine hK.out _ _ ?_
                clear hK K
                refine done_ (done_of HT_.out (by kernel_rfl)) ?_
                try go_wp2
                (try simp only [← hl0_1])
                go_roundg k1
                case measure => have := HK1.out; omega
                case rel => exact ⟨(y1004), (wrap64 (x2_1 + 1)), (wrap64 (x3_1 - 1)), (by first | rfl | (simp; done) | (simp [*]; done)), (by first | rfl | (simp; done) | (simp [*]; done)), H', ⟨by have := HK1.out; omega⟩, ⟨by (try simp only [hl0_1]); (with_reducible repeat (first | apply Kd.R_alloc | apply Kd.R_drewN | apply Kd.R_drew)); exact HQ12.out⟩, ⟨by repeat (first | (with_reducible first | exact HK.out | apply Kept.alloc | apply Kept.drewN | apply Kept.drew | refine Kept.setCell ?_ HMgo8.out _ | refine Kept.setCell ?_ HMgo8.out _) | exact HK.out)⟩, ⟨by repeat (first | (with_reducible first | exact HB.out | apply below_alloc | apply pw_below_drewN | apply below_drew1 | refine below_set ?_ GB8.out | refine below_set ?_ GB8.out) | exact HB.out)⟩⟩
              · rw [if_neg c7] at H
                exact absurd H (by simp)
            · rw [if_neg c6] at H
              exact absurd H (by simp)
          · rw [if_neg c5] at H
            exact absurd H (by simp)
        · rw [if_neg c4] at H
          exact absurd H (by simp)
      · rw [if_neg c3] at H
        have c3b0 : decide (x2_1 < x3_1) = false := decide_eq_false c3
        clear c3
        obtain rfl := Option.some.inj H
        go_wp2
        first | go_end0 | ((try simp only [Exit.inBlock, Exit.then]); refine bodyPost_ret (results_none rfl _ _ _) rfl ?_)
        exact ⟨by first | rfl | (simp [errW_none, errW_some] <;> rfl) | (simp [*, errW_none, errW_some] <;> rfl), (by first | exact (by (with_reducible repeat (first | apply Kd.R_alloc | apply Kd.R_drewN | apply Kd.R_drew)); exact HO_0.out) | (simp only [hl0_1]; exact (by (with_reducible repeat (first | apply Kd.R_alloc | apply Kd.R_drewN | apply Kd.R_drew)); exact HO_0.out))), by repeat (first | (with_reducible first | exact HB.out | apply below_alloc | apply pw_below_drewN | apply below_drew1) | exact HB.out), by repeat (first | (with_reducible first | exact HK.out | apply Kept.alloc | apply Kept.drewN | apply Kept.drew) | exact HK.out)⟩

end Go.Proofs.YtkidgakjeahebaaDoor.P
