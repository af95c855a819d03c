/- A part of a proof that a law's Go function returns true for every input, laid by this session's program mp.py (which drives the kit's print). Conditions: as each theorem states them. -/
import Derived.StillTailTactics
import Derived.Sort.QuietIn
import Derived.Laws.EntriesVeiled
import Derived.Shelf.Abstract
import Derived.RowKit
import Derived.Tactics
import Derived.Test.YtkidgakjeahebaaDoorCCanonTurns1
import Derived.Test.YtkidgakjeahebaaDoorCCanonTurns2
namespace Go.Proofs.YtkidgakjeahebaaDoor.P
open Go.RowKit Go.Proofs.YtkidgakjeahebaaDoorW.PrintWords Go.Proofs.YtkidgakjeahebaaDoorW.PrintLast Go.Proofs.YtkidgakjeahebaaDoorW.PrintMore
attribute [local go_sem] max2_int min2_int max_two min_two max_three min_three max_four min_four   -- for this text's walks alone
set_option linter.unusedVariables false
set_option linter.unusedSimpArgs false

/-! canon's partners: the first free beat is filled in each way -/
def KeepB (S : Nat) (w w' : World) : Prop := (∀ b, S ≤ b → b < S + 4 → w'.heap[b]? = w.heap[b]?) ∧ w'.heap[1]? = w.heap[1]?
theorem KeepB.refl (S : Nat) (w : World) : KeepB S w w := ⟨fun _ _ _ => rfl, rfl⟩
theorem KeepB.trans {S : Nat} {a b c : World} (h : KeepB S a b) (k : KeepB S b c) : KeepB S a c := ⟨fun i h1 h2 => (k.1 i h1 h2).trans (h.1 i h1 h2), k.2.trans h.2⟩
theorem KeepB.drew (S : Nat) (w : World) (q : Nat) : KeepB S w (w.drewN q) := ⟨fun _ _ _ => rfl, rfl⟩
structure Boxes4 (S n a g : Nat) (lb : Array Value) (w : World) : Prop where
  cn : w.cell? ⟨S, 0, none⟩ = some (.int .i64 (n : Int))
  ca : w.cell? ⟨S + 1, 0, none⟩ = some (.int .i64 (a : Int))
  cm : w.cell? ⟨S + 1 + 1, 0, none⟩ = some (.func (.func g) #[] lb)
  cf : w.cell? ⟨S + 1 + 1 + 1, 0, none⟩ = some (.func (.func 56) #[] #[.pointer (some ⟨S, 0, none⟩), .pointer (some ⟨S + 1 + 1, 0, none⟩), .pointer (some ⟨S + 1, 0, none⟩), .pointer (some ⟨S + 1 + 1 + 1, 0, none⟩)])
theorem Boxes4.keep {S n a g : Nat} {lb : Array Value} {w w' : World} (h : Boxes4 S n a g lb w) (k : KeepB S w w') : Boxes4 S n a g lb w' :=
  ⟨(cell_heap (k.1 _ (by omega) (by omega)) 0).trans h.cn, (cell_heap (k.1 _ (by omega) (by omega)) 0).trans h.ca, (cell_heap (k.1 _ (by omega) (by omega)) 0).trans h.cm, (cell_heap (k.1 _ (by omega) (by omega)) 0).trans h.cf⟩
def took (cont : Bool) (l : List Nat) : List Nat := if cont then l else l.take 1
def FillPost (S : Nat) (J : List Nat → World → Prop) (pre L : List Nat) (cont : Bool) (w : World) (e : Ending) (w' : World) : Prop :=
  e = .returned (.bool (cont || L.isEmpty)) ∧ J (pre ++ took cont L) w' ∧ KeepB S w w'
def visOne (n a d b F x : Nat) : List Nat := match stA n a (freeAt n F) x with
  | some k => if moveN n a k &&& F = 0 then vis n a (stA n a) d (b ||| 2 ^ k) (F ||| moveN n a k) else []
  | none => []
def visTo (n a d b F m : Nat) : List Nat := (List.range m).flatMap (visOne n a d b F)
theorem visTo_succ (n a d b F m : Nat) : visTo n a d b F (m + 1) = visTo n a d b F m ++ visOne n a d b F m := by unfold visTo; rw [List.range_succ]; simp
theorem vis_full {n a d b F : Nat} (h : F = 2 ^ n - 1) : vis n a (stA n a) (d + 1) b F = [b] := by simp only [vis]; rw [if_pos h]
theorem vis_more {n a d b F : Nat} (h : F ≠ 2 ^ n - 1) : vis n a (stA n a) (d + 1) b F = visTo n a d b F n := by simp only [vis]; rw [if_neg h]; rfl
theorem andNot_i64 {n F : Nat} (hn : n ≤ 24) (hF : F < 2 ^ n) : Go.bits .andNot .i64 ((2 ^ n - 1 : Nat) : Int) (F : Int) = (compl n F : Int) := by
  have hp : 2 ^ n ≤ 2 ^ 24 := Nat.pow_le_pow_right (by omega) hn
  have h24 : (2 : Nat) ^ 24 = 16777216 := by decide
  have h0 := Nat.two_pow_pos n
  have hb : IntKind.i64.bits = 64 := rfl
  have h64 : (2 : Nat) ^ 64 = 18446744073709551616 := by decide
  simp only [Go.bits, BitVec.ofInt_natCast, BitVec.toNat_and, BitVec.toNat_not, BitVec.toNat_ofNat, hb]
  rw [Nat.mod_eq_of_lt (show 2 ^ n - 1 < 2 ^ 64 by omega), Nat.mod_eq_of_lt (show F < 2 ^ 64 by omega), h64, compl_and hn hF]
  have := compl_lt n F
  exact i64_id (by omega) (by omega)
section
variable (S n a g : Nat) (lb : Array Value) (cont : Bool) (J : List Nat → World → Prop)
set_option maxHeartbeats 2000000 in
set_option maxRecDepth 100000 in
theorem fill_full (eg : ∀ args w, (callFunc g args).run Tryd.prog w = .ok (.enter g args) w) (hn : 2 ≤ n) (hn2 : n ≤ 24) (b F d : Nat) (pre : List Nat) (w : World) (e : F = 2 ^ n - 1) (hB : Boxes4 S n a g lb w) 
    (hm : ∀ q, Calls Tryd.prog g (#[.int .i64 (b : Int)] ++ lb) (w.drewN q) fun e w' => e = .returned (.bool cont) ∧ J (pre ++ [b]) w' ∧ KeepB S (w.drewN q) w') :
    Calls Tryd.prog 56 #[.int .i64 (b : Int), .int .i64 (F : Int), .pointer (some ⟨S, 0, none⟩), .pointer (some ⟨S + 1 + 1, 0, none⟩), .pointer (some ⟨S + 1, 0, none⟩), .pointer (some ⟨S + 1 + 1 + 1, 0, none⟩)] w
      (FillPost S J pre (vis n a (stA n a) (d + 1) b F) cont w) := by
  rw [vis_full e]
  obtain ⟨cn, ca, cm, cf⟩ := hB
  have HA := Aside0.mk (all_f hn2)
  have heq : ((F : Int) == ((2 ^ n - 1 : Nat) : Int)) = true := by rw [e]; exact beq_self_eq_true _
  have HM := Aside0.mk hm
  clear e hm ca cf
  generalize (2 ^ n - 1 : Nat) = full at HA heq
  go_enter Tryd.func56, Tryd.ntmps56
  go_wp2_with (first | (go_at_call 44; refine (canon_circle_all.calls _ _ _ HA.out).mono ?_; rintro e w' ⟨rfl, ⟨q, rfl⟩⟩) | ((with_reducible refine (HM.out _).mono ?_); rintro e w' ⟨rfl, hj, hk⟩))
  go_ret
  refine ⟨by simp, ?_, KeepB.trans (KeepB.drew S w _) hk⟩
  have : took cont [b] = [b] := by unfold took; cases cont <;> rfl
  rw [this]; exact hj
theorem took_go {cont : Bool} {V L : List Nat} (h : (cont || V.isEmpty) = true) (hc : cont = true ∨ L = []) : took cont V = V ∧ (cont = true ∨ L ++ V = []) := by
  cases cont with
  | true => exact ⟨rfl, .inl rfl⟩
  | false =>
    have hv : V = [] := by simpa using h
    have hl : L = [] := by simpa using hc
    subst hv hl
    exact ⟨rfl, .inr rfl⟩
theorem took_stop {cont : Bool} {V L A O : List Nat} (h : (cont || V.isEmpty) = false) (hc : cont = true ∨ L = []) (hs : ∃ R, A = L ++ O ++ R) (ho : O = V) : (cont || A.isEmpty) = false ∧ L = [] ∧ took cont A = took cont V := by
  obtain ⟨R, hs⟩ := hs
  rw [Bool.or_eq_false_iff] at h
  obtain ⟨h1, h2⟩ := h
  subst h1
  have hl : L = [] := by simpa using hc
  subst hl ho
  cases O with
  | nil => simp at h2
  | cons v V => subst hs; exact ⟨by simp, rfl, by simp [took]⟩
theorem took_all {cont : Bool} {L : List Nat} (hc : cont = true ∨ L = []) : took cont L = L := by
  rcases hc with rfl | rfl
  · rfl
  · cases cont <;> rfl
theorem visTo_split (n a d b F : Nat) {x : Nat} (hx : x < n) : ∃ R, visTo n a d b F n = visTo n a d b F x ++ visOne n a d b F x ++ R := by
  rw [← visTo_succ]
  obtain ⟨r, hr⟩ : ∃ r, n = x + 1 + r := ⟨n - (x + 1), by omega⟩
  have h : ∀ r, ∃ R, visTo n a d b F (x + 1 + r) = visTo n a d b F (x + 1) ++ R := by
    intro r
    induction r with
    | zero => exact ⟨[], by simp⟩
    | succ r ih =>
      obtain ⟨R, hR⟩ := ih
      exact ⟨R ++ visOne n a d b F (x + 1 + r), by rw [← Nat.add_assoc, visTo_succ, hR, List.append_assoc]⟩
  obtain ⟨R, hR⟩ := h r
  exact ⟨R, by rw [← hR, ← hr]⟩
theorem bit_shr {n a x : Nat} (hn : n ≤ 24) (ha : a < 2 ^ n) (hx : x ≤ 64) : ∃ sh : Int, (a : Int) / 2 ^ x = sh ∧ Go.bits .and .i64 sh 1 = if a.testBit x then 1 else 0 := by
  refine ⟨_, rfl, ?_⟩
  have h := bit_r hn ha hx
  unfold shr at h
  rw [Int.toNat_natCast, show min x IntKind.i64.bits = x from Nat.min_eq_left (by show x ≤ 64; omega)] at h
  exact h
theorem round_nums {n a F f x : Nat} (hn2 : n ≤ 24) (ha : a < 2 ^ n) (hF : F < 2 ^ n) (hf : f < n) (hx : x < n) : ((f : Int) - (x : Int) + (n : Int)) % (n : Int) = (((f + (n - x)) % n : Nat) : Int) ∧ Int.tmod ((f : Int) - (x : Int) + (n : Int)) (n : Int) = (((f + (n - x)) % n : Nat) : Int) ∧ ((n : Int) == 0) = false ∧
    canon_circle_move.f (n : Int) (a : Int) (((f + (n - x)) % n : Nat) : Int) = some (moveN n a ((f + (n - x)) % n) : Int) ∧ Go.bits .and .i64 (moveN n a ((f + (n - x)) % n) : Int) (F : Int) = ((moveN n a ((f + (n - x)) % n) &&& F : Nat) : Int) := by
  have hk : (f + (n - x)) % n < n := Nat.mod_lt _ (by omega)
  have e : (f : Int) - (x : Int) + (n : Int) = ((f + (n - x) : Nat) : Int) := by omega
  refine ⟨by rw [e]; omega, ?_, beq_eq_false_iff_ne.2 (by omega), move_f hn2 (by omega) ha, and_r hn2 (moveN_lt n a _) hF⟩
  rw [e, Int.tmod_eq_emod_of_nonneg (by omega)]; omega
theorem next_nums {n b F k m : Nat} (hn2 : n ≤ 24) (hb : b < 2 ^ n) (hF : F < 2 ^ n) (hk : k < n) (hm : m < 2 ^ n) : ∃ p2 b2 F2 : Nat, IntKind.i64.wrap ((2 : Int) ^ k) = (p2 : Int) ∧ wrap64 ((2 : Int) ^ k) = (p2 : Int) ∧ Go.bits .or .i64 (b : Int) (p2 : Int) = (b2 : Int) ∧
    Go.bits .or .i64 (F : Int) (m : Int) = (F2 : Int) ∧ b ||| 2 ^ k = b2 ∧ F ||| m = F2 := by
  have hp : 2 ^ k < 2 ^ n := Nat.pow_lt_pow_right (by omega) hk
  have h24 := pow24 hn2
  refine ⟨2 ^ k, b ||| 2 ^ k, F ||| m, ?_, ?_, or_r hn2 hb hp, or_r hn2 hF hm, rfl, rfl⟩
  · rw [← pow_cast]; generalize 2 ^ k = P at hp ⊢; rw [i64_id (by omega) (by omega)]
  · rw [← pow_cast]; generalize 2 ^ k = P at hp ⊢; rw [wrap_id (by omega) (by omega)]
set_option maxHeartbeats 4000000 in
set_option maxRecDepth 100000 in
theorem fill_free (eg : ∀ args w, (callFunc g args).run Tryd.prog w = .ok (.enter g args) w) (hn : 2 ≤ n) (hn2 : n ≤ 24) (ha : a < 2 ^ n) (b F d : Nat) (pre : List Nat) (w : World) (hP : Part n a b F) (e : F ≠ 2 ^ n - 1) (hB : Boxes4 S n a g lb w) (hT : Tabs w) (hJ : J pre w) (hJd : ∀ s A q, J s A → J s (A.drewN q))
    (ih : ∀ (k : Nat) (pre : List Nat) (w : World), k < n → moveN n a k &&& F = 0 → (moveN n a k).testBit (freeAt n F) = true → Boxes4 S n a g lb w → Tabs w → J pre w → Calls Tryd.prog 56 #[.int .i64 ((b ||| 2 ^ k : Nat) : Int), .int .i64 ((F ||| moveN n a k : Nat) : Int), .pointer (some ⟨S, 0, none⟩), .pointer (some ⟨S + 1 + 1, 0, none⟩), .pointer (some ⟨S + 1, 0, none⟩), .pointer (some ⟨S + 1 + 1 + 1, 0, none⟩)] w
      (FillPost S J pre (vis n a (stA n a) d (b ||| 2 ^ k) (F ||| moveN n a k)) cont w)) :
    Calls Tryd.prog 56 #[.int .i64 (b : Int), .int .i64 (F : Int), .pointer (some ⟨S, 0, none⟩), .pointer (some ⟨S + 1 + 1, 0, none⟩), .pointer (some ⟨S + 1, 0, none⟩), .pointer (some ⟨S + 1 + 1 + 1, 0, none⟩)] w
      (FillPost S J pre (vis n a (stA n a) (d + 1) b F) cont w) := by
  rw [vis_more e]
  obtain ⟨hb, hF, -, -⟩ := hP
  have cn := hB.cn
  obtain ⟨hl1, hl2, hl3, hl4⟩ := free_low hn2 hF e
  have HFS := Aside0.mk (freeAt_spec hF e).1
  have HB := Aside0.mk hB
  have HTB := Aside0.mk hT
  have HA := Aside0.mk (all_f hn2)
  have heq : ((F : Int) == ((2 ^ n - 1 : Nat) : Int)) = false := beq_eq_false_iff_ne.2 (fun h => e (by exact_mod_cast h))
  have hnot := andNot_i64 hn2 hF
  have HTZ := Aside0.mk (fun q => TZ_calls (compl n F) (freeAt n F) hl1 hl2 hl3 hl4 (w.drewN q) (hT.heap rfl))
  have hu : IntKind.u64.wrap (compl n F : Int) = (compl n F : Int) := by
    rw [u64_mod]; have : (2 : Nat) ^ 24 = 16777216 := by decide
    omega
  have HF := Aside0.mk hF
  have HBB := Aside0.mk hb
  have HE := Aside0.mk e
  have HI := Aside0.mk ih
  have HJD := Aside0.mk hJd
  have HJ := Aside0.mk hJ
  have HN := Aside0.mk hn
  have HN2 := Aside0.mk hn2
  have HAA := Aside0.mk ha
  have hn63 : n ≤ 24 := hn2
  clear e hJ hJd ih hF hb hl1 hl2 hl3 hl4 hB hT hn hn2 ha
  generalize hfull : (2 ^ n - 1 : Nat) = full at HA heq hnot
  generalize hcompl : compl n F = cF at hnot HTZ hu
  have HCF := Aside0.mk hcompl
  have HFU := Aside0.mk hfull
  clear hfull hcompl
  go_enter Tryd.func56, Tryd.ntmps56
  go_wp2_with (first | (go_at_call 44; refine (canon_circle_all.calls _ _ _ HA.out).mono ?_; rintro e w' ⟨rfl, ⟨q, rfl⟩⟩) | (go_at_call 57; refine (HTZ.out _).mono ?_; rintro e w' ⟨rfl, rfl⟩))
  obtain ⟨f, hf⟩ : ∃ f, freeAt n F = f := ⟨_, rfl⟩
  rw [hf] at HFS HTZ ⊢
  have HFF := Aside0.mk hf
  clear hf HTZ HA hnot hu heq cn
  go_loopg [27] n (fun gg s27 wr => ∃ x : Nat, s27 = .int .i64 x ∧ Aside0 (x + gg = n) ∧ Aside0 (J (pre ++ visTo n a d b F x) wr) ∧ Aside0 (cont = true ∨ visTo n a d b F x = []) ∧ Aside0 (KeepB S w wr))
  case atStart => exact ⟨0, rfl, ⟨by omega⟩, ⟨by show J (pre ++ []) _; rw [List.append_nil]; exact HJD.out _ _ _ HJ.out⟩, ⟨.inr rfl⟩, ⟨KeepB.drew S w _⟩⟩
  case round =>
    obtain ⟨x, rfl, HX, HJX, HC, HK⟩ := hrel
    by_cases hlt : x < n
    · have hltz : (x : Int) < (n : Int) := by omega
      have cn := (HB.out.keep HK.out).cn
      have ca := (HB.out.keep HK.out).ca
      have cf := (HB.out.keep HK.out).cf
      obtain ⟨sh, hsh, hbit⟩ := bit_shr HN2.out HAA.out (show x ≤ 64 by omega)
      have hx64 : x ≤ 64 := by omega
      have hfn : f < n := HFS.out
      have HS := Aside0.mk (visTo_succ n a d b F x)
      have HO := Aside0.mk (show visOne n a d b F x = match stA n a f x with
        | some k => if moveN n a k &&& F = 0 then vis n a (stA n a) d (b ||| 2 ^ k) (F ||| moveN n a k) else []
        | none => [] by unfold visOne; rw [HFF.out])
      cases hab : a.testBit x with
      | false =>
        rw [hab, if_neg (by decide)] at hbit
        have HO2 := Aside0.mk (show visOne n a d b F x = [] by rw [HO.out]; unfold stA; rw [hab]; rfl)
        clear hab
        go_wp2
        go_roundg (gk - 1)
        case measure => have := HX.out; omega
        case rel =>
          refine ⟨x + 1, by go_num, ⟨by have := HX.out; omega⟩, ⟨?_⟩, ⟨?_⟩, HK⟩
          · rw [HS.out, HO2.out, List.append_nil]; exact HJX.out
          · rw [HS.out, HO2.out, List.append_nil]; exact HC.out
      | true =>
        rw [hab, if_pos rfl] at hbit
        obtain ⟨e1, e2, e3, e4, e5⟩ := round_nums HN2.out HAA.out HF.out HFS.out hlt
        have HO1 := Aside0.mk (show visOne n a d b F x = if moveN n a ((f + (n - x)) % n) &&& F = 0 then vis n a (stA n a) d (b ||| 2 ^ ((f + (n - x)) % n)) (F ||| moveN n a ((f + (n - x)) % n)) else [] by
          rw [HO.out]; unfold stA; rw [hab]; rfl)
        have HMV := Aside0.mk e4
        have hk : (f + (n - x)) % n < n := Nat.mod_lt _ (by omega)
        have HSF := Aside0.mk (show (moveN n a ((f + (n - x)) % n)).testBit (freeAt n F) = true by
          rw [HFF.out]; exact ((stepOk_A HAA.out).1 f x _ HFS.out hlt (by unfold stA; rw [hab]; rfl)).2)
        clear hab e4
        generalize hkk : (f + (n - x)) % n = k at *
        generalize hmm : moveN n a k = m at *
        have HMM := Aside0.mk hmm
        have hm0 : (0 : Int) ≤ (k : Int) := by omega
        clear hkk hmm
        have hk64 : k ≤ 64 := by omega
        by_cases hz : m &&& F = 0
        · have e6 : (((m &&& F : Nat) : Int) == 0) = true := by rw [hz]; rfl
          have HO2 := Aside0.mk (show visOne n a d b F x = vis n a (stA n a) d (b ||| 2 ^ k) (F ||| m) by rw [HO1.out, if_pos hz])
          have HK2 := Aside0.mk hk
          obtain ⟨p2, b2, F2, r1, r2, r3, r4, hb2, hF2⟩ := next_nums HN2.out HBB.out HF.out hk (HMM.out ▸ moveN_lt n a k)
          have hz' := Aside0.mk hz
          rw [hb2, hF2] at HO2
          have HCALL : ∀ q, Calls Tryd.prog 56 #[.int .i64 (b2 : Int), .int .i64 (F2 : Int), .pointer (some ⟨S, 0, none⟩), .pointer (some ⟨S + 1 + 1, 0, none⟩), .pointer (some ⟨S + 1, 0, none⟩), .pointer (some ⟨S + 1 + 1 + 1, 0, none⟩)] (wr.drewN q)
            (FillPost S J (pre ++ visTo n a d b F x) (vis n a (stA n a) d b2 F2) cont (wr.drewN q)) := fun q => by
            have := HI.out k (pre ++ visTo n a d b F x) (wr.drewN q) hk (by rw [HMM.out]; exact hz'.out) (by rw [HMM.out]; exact HSF.out) ((HB.out.keep HK.out).keep (KeepB.drew S wr q)) (HTB.out.heap (HK.out.2.trans rfl)) (HJD.out _ _ _ HJX.out)
            rw [HMM.out, hb2, hF2] at this
            exact this
          have HCALL := Aside0.mk HCALL
          clear hz hz' hb2 hF2 hk
          generalize vis n a (stA n a) d b2 F2 = V at HCALL HO2
          cases hc : (cont || V.isEmpty) with
          | true =>
            have HCQ := Aside0.mk (fun q1 => show Calls Tryd.prog 56 #[.int .i64 (b2 : Int), .int .i64 (F2 : Int), .pointer (some ⟨S, 0, none⟩), .pointer (some ⟨S + 1 + 1, 0, none⟩), .pointer (some ⟨S + 1, 0, none⟩), .pointer (some ⟨S + 1 + 1 + 1, 0, none⟩)] (wr.drewN q1).drew fun e w' => e = .returned (.bool true) ∧ J (pre ++ visTo n a d b F x ++ took cont V) w' ∧ KeepB S w w' from by
              rw [show (wr.drewN q1).drew = wr.drewN (q1 + 1) from rfl]
              exact (HCALL.out _).mono fun e w' h => ⟨h.1.trans (by rw [hc]), h.2.1, HK.out.trans ((KeepB.drew S wr _).trans h.2.2)⟩)
            have hfin := Aside0.mk (took_go hc HC.out)
            clear hc HCALL
            go_wp2_with (go_at_call 42; (with_reducible refine (canon_circle_move.calls _ _ _ _ _ HMV.out).mono ?_); rintro e w' ⟨rfl, ⟨q, rfl⟩⟩)
            have cfq : (wr.drewN q).cell? ⟨S + 1 + 1 + 1, 0, none⟩ = some (.func (.func 56) #[] #[.pointer (some ⟨S, 0, none⟩), .pointer (some ⟨S + 1 + 1, 0, none⟩), .pointer (some ⟨S + 1, 0, none⟩), .pointer (some ⟨S + 1 + 1 + 1, 0, none⟩)]) := cf
            have HCR := Aside0.mk (HCQ.out q)
            generalize wr.drewN q = Wq at cfq HCR ⊢
            clear cn ca cf HCQ
            go_still_tail 13, (by kernel_rfl)
            go_wp2_with ((with_reducible refine HCR.out.mono ?_); rintro e w' ⟨rfl, hj, hk2⟩)
            go_roundg (gk - 1)
            case measure => have := HX.out; omega
            case rel =>
              refine ⟨x + 1, by go_num, ⟨by have := HX.out; omega⟩, ⟨?_⟩, ⟨?_⟩, ⟨hk2⟩⟩
              · rw [HS.out, HO2.out, ← List.append_assoc]; rw [hfin.out.1] at hj; exact hj
              · rw [HS.out, HO2.out]; exact hfin.out.2
          | false =>
            have HCQ := Aside0.mk (fun q1 => show Calls Tryd.prog 56 #[.int .i64 (b2 : Int), .int .i64 (F2 : Int), .pointer (some ⟨S, 0, none⟩), .pointer (some ⟨S + 1 + 1, 0, none⟩), .pointer (some ⟨S + 1, 0, none⟩), .pointer (some ⟨S + 1 + 1 + 1, 0, none⟩)] (wr.drewN q1).drew fun e w' => e = .returned (.bool false) ∧ J (pre ++ visTo n a d b F x ++ took cont V) w' ∧ KeepB S w w' from by
              rw [show (wr.drewN q1).drew = wr.drewN (q1 + 1) from rfl]
              exact (HCALL.out _).mono fun e w' h => ⟨h.1.trans (by rw [hc]), h.2.1, HK.out.trans ((KeepB.drew S wr _).trans h.2.2)⟩)
            have hfin := Aside0.mk (took_stop hc HC.out (visTo_split n a d b F hlt) HO2.out)
            clear hc HCALL
            go_wp2_with (go_at_call 42; (with_reducible refine (canon_circle_move.calls _ _ _ _ _ HMV.out).mono ?_); rintro e w' ⟨rfl, ⟨q, rfl⟩⟩)
            have cfq : (wr.drewN q).cell? ⟨S + 1 + 1 + 1, 0, none⟩ = some (.func (.func 56) #[] #[.pointer (some ⟨S, 0, none⟩), .pointer (some ⟨S + 1 + 1, 0, none⟩), .pointer (some ⟨S + 1, 0, none⟩), .pointer (some ⟨S + 1 + 1 + 1, 0, none⟩)]) := cf
            have HCR := Aside0.mk (HCQ.out q)
            generalize wr.drewN q = Wq at cfq HCR ⊢
            clear cn ca cf HCQ
            go_still_tail 13, (by kernel_rfl)
            go_wp2_with ((with_reducible refine HCR.out.mono ?_); rintro e w' ⟨rfl, hj, hk2⟩)
            go_ret
            refine ⟨by rw [hfin.out.1]; rfl, ?_, hk2⟩
            rw [hfin.out.2.1, List.append_nil] at hj
            rw [hfin.out.2.2]; exact hj
        · have e6 : (((m &&& F : Nat) : Int) == 0) = false := beq_eq_false_iff_ne.2 (by omega)
          have HO2 := Aside0.mk (show visOne n a d b F x = [] by rw [HO1.out, if_neg hz])
          clear hz
          go_wp2_with (go_at_call 42; (with_reducible refine (canon_circle_move.calls _ _ _ _ _ HMV.out).mono ?_); rintro e w' ⟨rfl, ⟨q, rfl⟩⟩)
          go_quiet (fail)
          go_wp2
          go_roundg (gk - 1)
          case measure => have := HX.out; omega
          case rel =>
            refine ⟨x + 1, by go_num, ⟨by have := HX.out; omega⟩, ⟨?_⟩, ⟨?_⟩, ⟨HK.out.trans (KeepB.drew S wr _)⟩⟩
            · rw [HS.out, HO2.out, List.append_nil]; exact HJD.out _ _ _ HJX.out
            · rw [HS.out, HO2.out, List.append_nil]; exact HC.out
    · have hxn : x = n := by have := HX.out; omega
      have HXN := Aside0.mk hxn
      clear hxn
      have hltz : ¬ (x : Int) < (n : Int) := by omega
      go_wp2
      go_ret
      have hj := HJX.out
      have hc := HC.out
      rw [HXN.out] at hj hc
      refine ⟨?_, ?_, HK.out⟩
      · rcases hc with hc | hc <;> simp [hc]
      · rw [took_all hc]; exact hj
theorem fill_calls (eg : ∀ args w, (callFunc g args).run Tryd.prog w = .ok (.enter g args) w) (hn : 2 ≤ n) (hn2 : n ≤ 24) (ha : a < 2 ^ n) (h0 : a.testBit 0 = true) (hJd : ∀ s A q, J s A → J s (A.drewN q))
    (hm : ∀ (pre : List Nat) (b : Nat) (W : World), J pre W → b < 2 ^ n → (Tiled n a b ∧ b.testBit 0 = true) → Calls Tryd.prog g (#[.int .i64 (b : Int)] ++ lb) W fun e w' => e = .returned (.bool cont) ∧ J (pre ++ [b]) w' ∧ KeepB S W w') :
    ∀ (d b F : Nat) (pre : List Nat) (w : World), Part n a b F → b.testBit 0 = true → cnt n (fun i => !F.testBit i) < d → Boxes4 S n a g lb w → Tabs w → J pre w →
    Calls Tryd.prog 56 #[.int .i64 (b : Int), .int .i64 (F : Int), .pointer (some ⟨S, 0, none⟩), .pointer (some ⟨S + 1 + 1, 0, none⟩), .pointer (some ⟨S + 1, 0, none⟩), .pointer (some ⟨S + 1 + 1 + 1, 0, none⟩)] w
      (FillPost S J pre (vis n a (stA n a) d b F) cont w) := by
  intro d
  induction d with
  | zero => intro b F pre w _ _ hd; omega
  | succ d ih =>
    intro b F pre w hP hb0 hd hB hT hJ
    by_cases e : F = 2 ^ n - 1
    · exact fill_full S n a g lb cont J eg hn hn2 b F d pre w e hB (fun q => hm pre b _ (hJd _ _ _ hJ) hP.1 ⟨part_full hP e, hb0⟩)
    · obtain ⟨hf, hf0, _⟩ := freeAt_spec hP.2.1 e
      refine fill_free S n a g lb cont J eg hn hn2 ha b F d pre w hP e hB hT hJ hJd (fun k pre w hk hz hsf hB hT hJ => ?_)
      refine ih _ _ pre w (hP.add hk hz) (by rw [Nat.testBit_or, hb0, Bool.true_or]) ?_ hB hT hJ
      have := cnt_lt_of (p := fun i => !(F ||| moveN n a k).testBit i) (q := fun i => !F.testBit i) n (fun i _ hp => by
            rw [Nat.testBit_or] at hp; cases hq : F.testBit i <;> simp_all) (freeAt n F) hf (by rw [Nat.testBit_or, hsf]; simp) (by rw [hf0]; rfl)
      omega
set_option maxHeartbeats 2000000 in
theorem partners_calls (eg : ∀ args w, (callFunc g args).run Tryd.prog w = .ok (.enter g args) w) (hn : 2 ≤ n) (hn2 : n ≤ 24) (ha : a < 2 ^ n) (h0 : a.testBit 0 = true) (w : World) (hT : Tabs w) (hS : S = w.heap.size) (hJd : ∀ s A q, J s A → J s (A.drewN q))
    (hJ : ∀ W, Below S w W → J [] W)
    (hm : ∀ (pre : List Nat) (b : Nat) (W : World), J pre W → b < 2 ^ n → (Tiled n a b ∧ b.testBit 0 = true) → Calls Tryd.prog g (#[.int .i64 (b : Int)] ++ lb) W fun e w' => e = .returned (.bool cont) ∧ J (pre ++ [b]) w' ∧ KeepB S W w') :
    Calls Tryd.prog 30 #[.int .i64 (n : Int), .int .i64 (a : Int), .func (.func g) #[] lb] w fun e w' => (∃ v, e = .returned v) ∧ J (took cont (vis n a (stA n a) (n + 1) 1 a)) w' := by
  have HC := Aside0.mk (fill_calls S n a g lb cont J eg hn hn2 ha h0 hJd hm)
  have HJ := Aside0.mk hJ
  have HT := Aside0.mk hT
  have HP := Aside0.mk (Part.start (show 1 ≤ n by omega) ha)
  have HS := Aside0.mk hS
  have hmf : ∀ (fn : Fn) (first cap : Array Value) (w : World), (Instr.makeFunc fn first cap).run Tryd.prog w = .ok (.func fn first cap) w := fun _ _ _ _ => rfl
  clear hJ hT hm hJd hS hn hn2 ha h0
  go_enter Tryd.func30, Tryd.ntmps30
  go_wp2_with fail
  obtain ⟨W0, hW0⟩ : ∃ W0, (((w.alloc (.cells #[.int .i64 (n : Int)] 47)).alloc (.cells #[.int .i64 (a : Int)] 3)).alloc (.cells #[.func (.func g) #[] lb] 50)).alloc (.cells #[.func (.func 56) #[] #[.pointer (some ⟨w.heap.size, 0, none⟩), .pointer (some ⟨w.heap.size + 1 + 1, 0, none⟩), .pointer (some ⟨w.heap.size + 1, 0, none⟩), .pointer (some ⟨w.heap.size + 1 + 1 + 1, 0, none⟩)]] 25) = W0 := ⟨_, rfl⟩
  obtain ⟨c0, c1, c2, c3, -, -, -, B0⟩ := four_new w _ _ _ _ _ _ _ _ S HS.out W0 hW0
  rw [hW0, ← HS.out]
  rw [← HS.out] at c3
  have hrun := HC.out (n + 1) 1 a [] W0 HP.out (by decide) start_cnt ⟨c0, c1, c2, c3⟩ (HT.out.below (HS.out ▸ B0)) (HJ.out W0 B0)
  clear hW0 c0 c1 c2 c3 B0 HJ HC
  refine hrun.mono ?_
  rintro e w' ⟨rfl, hj, hk⟩
  generalize (cont || (vis n a (stA n a) (n + 1) 1 a).isEmpty) = bb
  go_wp2
  go_end0
  exact ⟨⟨_, rfl⟩, hj⟩
end

end Go.Proofs.YtkidgakjeahebaaDoor.P
namespace Go.Proofs.YtkidgakjeahebaaDoor.P
open Go.RowKit Go.Proofs.YtkidgakjeahebaaDoorW.PrintWords Go.Proofs.YtkidgakjeahebaaDoorW.PrintLast Go.Proofs.YtkidgakjeahebaaDoorW.PrintMore
attribute [local go_sem] max2_int min2_int max_two min_two max_three min_three max_four min_four   -- for this text's walks alone
set_option linter.unusedVariables false
set_option linter.unusedSimpArgs false

/-! canon.Partner and canon.Partners: the least of all partners, and how many there are -/
def PL (n a : Nat) : List Nat := vis n a (stA n a) (n + 1) 1 a
def minStep (m b : Nat) : Nat := if m = 0 ∨ b < m then b else m
def minB (l : List Nat) : Nat := l.foldl minStep 0
def minI (l : List Nat) : Int := ((minB l : Nat) : Int)
def lenI (l : List Nat) : Int := wrap64 ((l.length : Nat) : Int)
def canon_Partners.f (a0 a1 : Int) : Option (Int × Int) := if ValidR a0 a1 then some (lenI (PL a0.toNat a1.toNat), 0) else some (0, 2)
def canon_Partner.f (a0 a1 : Int) : Option (Int × Int) := if ValidR a0 a1 then (if minI (PL a0.toNat a1.toNat) = 0 then some (0, 4) else some (minI (PL a0.toNat a1.toNat), 0)) else some (0, 2)
theorem minB_snoc (l : List Nat) (b : Nat) : minB (l ++ [b]) = minStep (minB l) b := by unfold minB; rw [List.foldl_append]; rfl
theorem lenI_nil : lenI [] = 0 := by unfold lenI wrap64; decide
theorem minI_nil : minI [] = 0 := rfl
theorem lenI_snoc (l : List Nat) (b : Nat) : lenI (l ++ [b]) = wrap64 (lenI l + 1) := by
  unfold lenI
  rw [List.length_append, List.length_singleton]
  unfold wrap64
  omega
def StepsOut (f : List Nat → Int) (g : Nat) : Prop := ∀ (pre : List Nat) (b : Nat) (W : World) (B : Nat), W.cell? ⟨B, 0, none⟩ = some (.int .i64 (f pre)) → W.frozen? ⟨B, 0, none⟩ = false →
  Calls Tryd.prog g #[.int .i64 (b : Int), .pointer (some ⟨B, 0, none⟩)] W fun e w' => e = .returned (.bool true) ∧ ((w' = W.setCell ⟨B, 0, none⟩ (.int .i64 (f (pre ++ [b])))) ∨ (w' = W ∧ f (pre ++ [b]) = f pre))
theorem partners_more : StepsOut lenI 32 := by
  intro pre b W B hc hf
  have HL := Aside0.mk (lenI_snoc pre b)
  generalize lenI pre = c at hc HL
  obtain ⟨d, hd⟩ : ∃ d, wrap64 (c + 1) = d := ⟨_, rfl⟩
  have hd2 : IntKind.i64.wrap (c + 1) = d := (i64_w _).trans hd
  rw [hd] at HL
  go_enter Tryd.func32, Tryd.ntmps32
  go_wp2
  go_ret
  refine ⟨rfl, .inl ?_⟩
  rw [HL.out]
theorem partner_more : StepsOut minI 31 := by
  intro pre b W B hc hf
  have HL := Aside0.mk (show minI (pre ++ [b]) = ((minStep (minB pre) b : Nat) : Int) by unfold minI; rw [minB_snoc])
  have HM := Aside0.mk (show minI pre = ((minB pre : Nat) : Int) from rfl)
  rw [HM.out] at hc
  generalize hm : minB pre = m at hc HL HM
  clear hm
  by_cases hz : m = 0
  · have e1 : ((m : Int) == 0) = true := by rw [hz]; rfl
    have HL2 := Aside0.mk (show minI (pre ++ [b]) = (b : Int) by rw [HL.out]; unfold minStep; rw [if_pos (.inl hz)])
    clear hz HL
    go_enter Tryd.func31, Tryd.ntmps31
    go_wp2
    go_ret
    refine ⟨rfl, .inl ?_⟩
    rw [HL2.out]
  · have e1 : ((m : Int) == 0) = false := beq_eq_false_iff_ne.2 (by omega)
    by_cases hl : b < m
    · have e2 : decide ((b : Int) < (m : Int)) = true := decide_eq_true (by omega)
      have e3 : decide (b < m) = true := decide_eq_true hl
      have HL2 := Aside0.mk (show minI (pre ++ [b]) = (b : Int) by rw [HL.out]; unfold minStep; rw [if_pos (.inr hl)])
      clear hz HL hl
      go_enter Tryd.func31, Tryd.ntmps31
      go_wp2
      go_ret
      refine ⟨rfl, .inl ?_⟩
      rw [HL2.out]
    · have e2 : decide ((b : Int) < (m : Int)) = false := decide_eq_false (by omega)
      have e3 : decide (b < m) = false := decide_eq_false hl
      have HL2 := Aside0.mk (show minI (pre ++ [b]) = minI pre by rw [HL.out, HM.out]; unfold minStep; rw [if_neg (fun h => h.elim hz hl)])
      clear hz HL hl
      go_enter Tryd.func31, Tryd.ntmps31
      go_wp2
      go_ret
      exact ⟨rfl, .inr ⟨rfl, HL2.out⟩⟩
theorem out_run (f : List Nat → Int) (g : Nat) (hg : StepsOut f g) (eg : ∀ args w, (callFunc g args).run Tryd.prog w = .ok (.enter g args) w) (hf0 : f [] = 0) {a0 a1 : Int} (hc : ValidR a0 a1) (w : World) (hT : Tabs w) (w2 : World) (hb : Below w.heap.size w w2) :
    Calls Tryd.prog 30 #[.int .i64 a0, .int .i64 a1, .func (.func g) #[] #[.pointer (some ⟨w2.heap.size, 0, none⟩)]] (w2.alloc (.cells #[.int .i64 0] 3)) fun e w' => (∃ v, e = .returned v) ∧
      w'.cell? ⟨w2.heap.size, 0, none⟩ = some (.int .i64 (f (PL a0.toNat a1.toNat))) ∧ Below w.heap.size w w' := by
  obtain ⟨n, a, rfl, rfl, hn, hn2, ha, h0⟩ := validR_nat hc
  obtain ⟨B, hB⟩ : ∃ B, B = w2.heap.size := ⟨_, rfl⟩
  rw [← hB]
  have hB1 : 1 < B := by rw [hB]; exact Nat.lt_of_lt_of_le hT.size hb.size
  have hwB : w.heap.size ≤ B := by rw [hB]; exact hb.size
  have hnew := new_cell w2 (.int .i64 0) 3
  rw [← hB] at hnew
  have hsz : (w2.alloc (.cells #[.int .i64 0] 3)).heap.size = B + 1 := by rw [World.size_alloc, ← hB]
  have hbw : Below w.heap.size w (w2.alloc (.cells #[.int .i64 0] 3)) := below_alloc hb _
  refine (partners_calls (B + 1) n a g #[.pointer (some ⟨B, 0, none⟩)] true (fun pre W => W.cell? ⟨B, 0, none⟩ = some (.int .i64 (f pre)) ∧ W.frozen? ⟨B, 0, none⟩ = false ∧ Below w.heap.size w W) eg hn hn2 ha h0 _ (hT.below hbw) hsz.symm ?_ ?_ ?_).mono ?_
  · rintro s A q ⟨h1, h2, h3⟩
    exact ⟨h1, h2, pw_below_drewN h3 q⟩
  · intro W hW
    refine ⟨?_, ?_, hbw.trans (hW.mono (by omega))⟩
    · rw [hf0]; exact (hW.cell (p := ⟨B, 0, none⟩) (by simp)).trans hnew.1
    · exact (hW.frozen (p := ⟨B, 0, none⟩) (by simp)).trans hnew.2
  · rintro pre b W ⟨h1, h2, h3⟩ _ _
    refine (hg pre b W B h1 h2).mono ?_
    rintro e w' ⟨rfl, (rfl | ⟨rfl, h⟩)⟩
    · refine ⟨rfl, ⟨World.cell?_setCell_same' _ _ _ (by rw [h1]; rfl), by rw [World.frozen?_setCell]; exact h2, h3.setCell (p := ⟨B, 0, none⟩) hwB _⟩, fun i hi _ => Below.heap_setCell W ⟨B, 0, none⟩ _ i (by simp only [ne_eq]; omega), Below.heap_setCell W ⟨B, 0, none⟩ _ 1 (by simp only [ne_eq]; omega)⟩
    · exact ⟨rfl, ⟨by rw [h]; exact h1, h2, h3⟩, KeepB.refl _ _⟩
  · rintro e w' ⟨hv, h1, h2, h3⟩
    exact ⟨hv, h1, h3⟩
set_option maxHeartbeats 4000000 in
set_option maxRecDepth 100000 in
theorem canon_Partners.calls (a0 a1 r1 r2 : Int) (w : World) (hT : Tabs w) (h : canon_Partners.f a0 a1 = some (r1, r2)) :
    Calls Tryd.prog 13 #[.int .i64 a0, .int .i64 a1] w fun e w' => e = .returned (.tuple #[.int .i64 r1, .int .i64 r2]) ∧ Below w.heap.size w w' := by
  have HB := Aside0.mk (Below.refl w.heap.size w)
  have HT := Aside0.mk hT
  unfold canon_Partners.f at h
  have hv := valid1_f a0 a1
  obtain ⟨y, hy⟩ : ∃ y : List Int, y = [a1] := ⟨_, rfl⟩
  rw [← hy] at hv
  have HY := Aside0.mk hy
  clear hy hT
  have hmf : ∀ (fn : Fn) (first cap : Array Value) (w : World), (Instr.makeFunc fn first cap).run Tryd.prog w = .ok (.func fn first cap) w := fun _ _ _ _ => rfl
  by_cases hc : ValidR a0 a1
  · rw [decide_eq_true hc] at hv
    rw [if_pos hc] at h
    have HV := Aside0.mk hv
    have HRUN := Aside0.mk (fun (w2 : World) (hb2 : Below w.heap.size w w2) => out_run lenI 32 partners_more (enters_of Tryd.func32 (by kernel_rfl) rfl) lenI_nil hc w HT.out w2 hb2)
    obtain ⟨v, hv2⟩ : ∃ v, lenI (PL a0.toNat a1.toNat) = v := ⟨_, rfl⟩
    rw [hv2] at h HRUN
    simp only [Option.some.injEq, Prod.mk.injEq] at h
    obtain ⟨rfl, rfl⟩ := h
    clear hv hc hv2
    go_enter Tryd.func13, Tryd.ntmps13
    go_wp2_with (first | ((with_reducible refine gate_dst (N := 9) rfl ?_); refine Kd.R_lit (Kd.int .i64) _ 3 ?hg (N := 9) ?hd (xs := ([a1] : List Int)) (inner := [.int .i64 a1]) (ok := fun _ => True) (okp := fun _ => True) ?hr ?hp (fun _ hk => hk) trivial (Below.refl _ _) (Nat.le_refl _) (by simp) ?_; (case hd => rfl); (case hg => rfl); (case hr => first | (go_simp; done) | (go_simp; rfl)); (case hp => exact (Reps.one (show Kd.M (Kd.int .i64) _ _ _ a1 [.int .i64 a1] from rfl) (Reps.none _ _))); intro v1002 w7 ho8 hb hg_ hnew_; clear hg_ hnew_; rw [← HY.out] at ho8; have n0_ := Aside0.mk (Kd.R_lower ho8 (below_size (by repeat (first | (with_reducible first | exact HB.out | apply below_alloc | apply pw_below_drewN | apply below_drew1) | exact HB.out)))); have n1_ := Aside0.mk (below_step (by repeat (first | (with_reducible first | exact HB.out | apply below_alloc | apply pw_below_drewN | apply below_drew1) | exact HB.out)) hb); clear HB; have HO := n0_; have HB := n1_; clear n0_ n1_; clear hb ho8; obtain ⟨Ao9, co9, eo9⟩ := Kd.R_slice HO.out; subst eo9) | ((with_reducible refine gate_callee (f := 28) rfl ?_); refine goesL_ (some 10) rfl rfl Tryd.func28 (by kernel_rfl) rfl #[.int .i64 a0, .slice Ao9 y.length co9] rfl (by (try simp only [List.map_toArray, List.map_cons, List.map_nil]); first | done | rfl) ?_; (with_reducible refine (canon_circle_valid.calls a0 _ _ y true _ ?side1 ?side2 HV.out).mono ?_); (case side1 => repeat (first | exact (Kd.R_reads' HO.out).2.2 | (with_reducible refine Kd.C_alloc ?_ _) | (with_reducible refine Kd.C_drewN ?_ _) | (with_reducible refine Kd.C_drew ?_))); (case side2 => exact (Kd.R_reads' HO.out).2.1); rintro e w10 ⟨rfl, hb⟩; refine ⟨_, rfl, ?_⟩; have n0_ := Aside0.mk (below_step (by repeat (first | (with_reducible first | exact HB.out | apply below_alloc | apply pw_below_drewN | apply below_drew1) | exact HB.out)) hb); clear HB HO; have HB := n0_; clear n0_ hb))
    refine (HRUN.out _ HB.out).mono ?_
    rintro e w12 ⟨⟨rv, rfl⟩, hcell, hb⟩
    clear HB
    have HB := Aside0.mk hb
    clear hb
    go_wp2
    go_ret2
    exact ⟨by first | rfl | simp, HB.out⟩
  · rw [decide_eq_false hc] at hv
    rw [if_neg hc] at h
    have HV := Aside0.mk hv
    simp only [Option.some.injEq, Prod.mk.injEq] at h
    obtain ⟨rfl, rfl⟩ := h
    clear hv hc
    go_enter Tryd.func13, Tryd.ntmps13
    go_wp2_with (first | ((with_reducible refine gate_dst (N := 9) rfl ?_); refine Kd.R_lit (Kd.int .i64) _ 3 ?hg (N := 9) ?hd (xs := ([a1] : List Int)) (inner := [.int .i64 a1]) (ok := fun _ => True) (okp := fun _ => True) ?hr ?hp (fun _ hk => hk) trivial (Below.refl _ _) (Nat.le_refl _) (by simp) ?_; (case hd => rfl); (case hg => rfl); (case hr => first | (go_simp; done) | (go_simp; rfl)); (case hp => exact (Reps.one (show Kd.M (Kd.int .i64) _ _ _ a1 [.int .i64 a1] from rfl) (Reps.none _ _))); intro v1002 w7 ho8 hb hg_ hnew_; clear hg_ hnew_; rw [← HY.out] at ho8; have n0_ := Aside0.mk (Kd.R_lower ho8 (below_size (by repeat (first | (with_reducible first | exact HB.out | apply below_alloc | apply pw_below_drewN | apply below_drew1) | exact HB.out)))); have n1_ := Aside0.mk (below_step (by repeat (first | (with_reducible first | exact HB.out | apply below_alloc | apply pw_below_drewN | apply below_drew1) | exact HB.out)) hb); clear HB; have HO := n0_; have HB := n1_; clear n0_ n1_; clear hb ho8; obtain ⟨Ao9, co9, eo9⟩ := Kd.R_slice HO.out; subst eo9) | ((with_reducible refine gate_callee (f := 28) rfl ?_); refine goesL_ (some 10) rfl rfl Tryd.func28 (by kernel_rfl) rfl #[.int .i64 a0, .slice Ao9 y.length co9] rfl (by (try simp only [List.map_toArray, List.map_cons, List.map_nil]); first | done | rfl) ?_; (with_reducible refine (canon_circle_valid.calls a0 _ _ y false _ ?side1 ?side2 HV.out).mono ?_); (case side1 => repeat (first | exact (Kd.R_reads' HO.out).2.2 | (with_reducible refine Kd.C_alloc ?_ _) | (with_reducible refine Kd.C_drewN ?_ _) | (with_reducible refine Kd.C_drew ?_))); (case side2 => exact (Kd.R_reads' HO.out).2.1); rintro e w10 ⟨rfl, hb⟩; refine ⟨_, rfl, ?_⟩; have n0_ := Aside0.mk (below_step (by repeat (first | (with_reducible first | exact HB.out | apply below_alloc | apply pw_below_drewN | apply below_drew1) | exact HB.out)) hb); clear HB HO; have HB := n0_; clear n0_ hb))
    go_ret2
    exact ⟨by first | rfl | simp, (by repeat (first | (with_reducible first | exact HB.out | apply below_alloc | apply pw_below_drewN | apply below_drew1) | exact HB.out))⟩

set_option maxHeartbeats 4000000 in
set_option maxRecDepth 100000 in
theorem canon_Partner.calls (a0 a1 r1 r2 : Int) (w : World) (hT : Tabs w) (h : canon_Partner.f a0 a1 = some (r1, r2)) :
    Calls Tryd.prog 12 #[.int .i64 a0, .int .i64 a1] w fun e w' => e = .returned (.tuple #[.int .i64 r1, .int .i64 r2]) ∧ Below w.heap.size w w' := by
  have HB := Aside0.mk (Below.refl w.heap.size w)
  have HT := Aside0.mk hT
  unfold canon_Partner.f at h
  have hv := valid1_f a0 a1
  obtain ⟨y, hy⟩ : ∃ y : List Int, y = [a1] := ⟨_, rfl⟩
  rw [← hy] at hv
  have HY := Aside0.mk hy
  clear hy hT
  have hmf : ∀ (fn : Fn) (first cap : Array Value) (w : World), (Instr.makeFunc fn first cap).run Tryd.prog w = .ok (.func fn first cap) w := fun _ _ _ _ => rfl
  by_cases hc : ValidR a0 a1
  · rw [decide_eq_true hc] at hv
    rw [if_pos hc] at h
    have HV := Aside0.mk hv
    have HRUN := Aside0.mk (fun (w2 : World) (hb2 : Below w.heap.size w w2) => out_run minI 31 partner_more (enters_of Tryd.func31 (by kernel_rfl) rfl) minI_nil hc w HT.out w2 hb2)
    obtain ⟨v, hv2⟩ : ∃ v, minI (PL a0.toNat a1.toNat) = v := ⟨_, rfl⟩
    rw [hv2] at h HRUN
    clear hv hc hv2
    by_cases hz : v = 0
    · rw [if_pos hz] at h
      simp only [Option.some.injEq, Prod.mk.injEq] at h
      obtain ⟨rfl, rfl⟩ := h
      have hz2 : (v == 0) = true := by rw [hz]; rfl
      clear hz
      go_enter Tryd.func12, Tryd.ntmps12
      go_wp2_with (first | ((with_reducible refine gate_dst (N := 9) rfl ?_); refine Kd.R_lit (Kd.int .i64) _ 3 ?hg (N := 9) ?hd (xs := ([a1] : List Int)) (inner := [.int .i64 a1]) (ok := fun _ => True) (okp := fun _ => True) ?hr ?hp (fun _ hk => hk) trivial (Below.refl _ _) (Nat.le_refl _) (by simp) ?_; (case hd => rfl); (case hg => rfl); (case hr => first | (go_simp; done) | (go_simp; rfl)); (case hp => exact (Reps.one (show Kd.M (Kd.int .i64) _ _ _ a1 [.int .i64 a1] from rfl) (Reps.none _ _))); intro v1002 w7 ho8 hb hg_ hnew_; clear hg_ hnew_; rw [← HY.out] at ho8; have n0_ := Aside0.mk (Kd.R_lower ho8 (below_size (by repeat (first | (with_reducible first | exact HB.out | apply below_alloc | apply pw_below_drewN | apply below_drew1) | exact HB.out)))); have n1_ := Aside0.mk (below_step (by repeat (first | (with_reducible first | exact HB.out | apply below_alloc | apply pw_below_drewN | apply below_drew1) | exact HB.out)) hb); clear HB; have HO := n0_; have HB := n1_; clear n0_ n1_; clear hb ho8; obtain ⟨Ao9, co9, eo9⟩ := Kd.R_slice HO.out; subst eo9) | ((with_reducible refine gate_callee (f := 28) rfl ?_); refine goesL_ (some 10) rfl rfl Tryd.func28 (by kernel_rfl) rfl #[.int .i64 a0, .slice Ao9 y.length co9] rfl (by (try simp only [List.map_toArray, List.map_cons, List.map_nil]); first | done | rfl) ?_; (with_reducible refine (canon_circle_valid.calls a0 _ _ y true _ ?side1 ?side2 HV.out).mono ?_); (case side1 => repeat (first | exact (Kd.R_reads' HO.out).2.2 | (with_reducible refine Kd.C_alloc ?_ _) | (with_reducible refine Kd.C_drewN ?_ _) | (with_reducible refine Kd.C_drew ?_))); (case side2 => exact (Kd.R_reads' HO.out).2.1); rintro e w10 ⟨rfl, hb⟩; refine ⟨_, rfl, ?_⟩; have n0_ := Aside0.mk (below_step (by repeat (first | (with_reducible first | exact HB.out | apply below_alloc | apply pw_below_drewN | apply below_drew1) | exact HB.out)) hb); clear HB HO; have HB := n0_; clear n0_ hb))
      refine (HRUN.out _ HB.out).mono ?_
      rintro e w12 ⟨⟨rv, rfl⟩, hcell, hb⟩
      clear HB
      have HB := Aside0.mk hb
      clear hb
      go_wp2
      go_ret2
      exact ⟨by first | rfl | simp, HB.out⟩
    · rw [if_neg hz] at h
      simp only [Option.some.injEq, Prod.mk.injEq] at h
      obtain ⟨rfl, rfl⟩ := h
      have hz2 : (v == 0) = false := beq_eq_false_iff_ne.2 hz
      clear hz
      go_enter Tryd.func12, Tryd.ntmps12
      go_wp2_with (first | ((with_reducible refine gate_dst (N := 9) rfl ?_); refine Kd.R_lit (Kd.int .i64) _ 3 ?hg (N := 9) ?hd (xs := ([a1] : List Int)) (inner := [.int .i64 a1]) (ok := fun _ => True) (okp := fun _ => True) ?hr ?hp (fun _ hk => hk) trivial (Below.refl _ _) (Nat.le_refl _) (by simp) ?_; (case hd => rfl); (case hg => rfl); (case hr => first | (go_simp; done) | (go_simp; rfl)); (case hp => exact (Reps.one (show Kd.M (Kd.int .i64) _ _ _ a1 [.int .i64 a1] from rfl) (Reps.none _ _))); intro v1002 w7 ho8 hb hg_ hnew_; clear hg_ hnew_; rw [← HY.out] at ho8; have n0_ := Aside0.mk (Kd.R_lower ho8 (below_size (by repeat (first | (with_reducible first | exact HB.out | apply below_alloc | apply pw_below_drewN | apply below_drew1) | exact HB.out)))); have n1_ := Aside0.mk (below_step (by repeat (first | (with_reducible first | exact HB.out | apply below_alloc | apply pw_below_drewN | apply below_drew1) | exact HB.out)) hb); clear HB; have HO := n0_; have HB := n1_; clear n0_ n1_; clear hb ho8; obtain ⟨Ao9, co9, eo9⟩ := Kd.R_slice HO.out; subst eo9) | ((with_reducible refine gate_callee (f := 28) rfl ?_); refine goesL_ (some 10) rfl rfl Tryd.func28 (by kernel_rfl) rfl #[.int .i64 a0, .slice Ao9 y.length co9] rfl (by (try simp only [List.map_toArray, List.map_cons, List.map_nil]); first | done | rfl) ?_; (with_reducible refine (canon_circle_valid.calls a0 _ _ y true _ ?side1 ?side2 HV.out).mono ?_); (case side1 => repeat (first | exact (Kd.R_reads' HO.out).2.2 | (with_reducible refine Kd.C_alloc ?_ _) | (with_reducible refine Kd.C_drewN ?_ _) | (with_reducible refine Kd.C_drew ?_))); (case side2 => exact (Kd.R_reads' HO.out).2.1); rintro e w10 ⟨rfl, hb⟩; refine ⟨_, rfl, ?_⟩; have n0_ := Aside0.mk (below_step (by repeat (first | (with_reducible first | exact HB.out | apply below_alloc | apply pw_below_drewN | apply below_drew1) | exact HB.out)) hb); clear HB HO; have HB := n0_; clear n0_ hb))
      refine (HRUN.out _ HB.out).mono ?_
      rintro e w12 ⟨⟨rv, rfl⟩, hcell, hb⟩
      clear HB
      have HB := Aside0.mk hb
      clear hb
      go_wp2
      go_ret2
      exact ⟨by first | rfl | simp, HB.out⟩
  · rw [decide_eq_false hc] at hv
    rw [if_neg hc] at h
    have HV := Aside0.mk hv
    simp only [Option.some.injEq, Prod.mk.injEq] at h
    obtain ⟨rfl, rfl⟩ := h
    clear hv hc
    go_enter Tryd.func12, Tryd.ntmps12
    go_wp2_with (first | ((with_reducible refine gate_dst (N := 9) rfl ?_); refine Kd.R_lit (Kd.int .i64) _ 3 ?hg (N := 9) ?hd (xs := ([a1] : List Int)) (inner := [.int .i64 a1]) (ok := fun _ => True) (okp := fun _ => True) ?hr ?hp (fun _ hk => hk) trivial (Below.refl _ _) (Nat.le_refl _) (by simp) ?_; (case hd => rfl); (case hg => rfl); (case hr => first | (go_simp; done) | (go_simp; rfl)); (case hp => exact (Reps.one (show Kd.M (Kd.int .i64) _ _ _ a1 [.int .i64 a1] from rfl) (Reps.none _ _))); intro v1002 w7 ho8 hb hg_ hnew_; clear hg_ hnew_; rw [← HY.out] at ho8; have n0_ := Aside0.mk (Kd.R_lower ho8 (below_size (by repeat (first | (with_reducible first | exact HB.out | apply below_alloc | apply pw_below_drewN | apply below_drew1) | exact HB.out)))); have n1_ := Aside0.mk (below_step (by repeat (first | (with_reducible first | exact HB.out | apply below_alloc | apply pw_below_drewN | apply below_drew1) | exact HB.out)) hb); clear HB; have HO := n0_; have HB := n1_; clear n0_ n1_; clear hb ho8; obtain ⟨Ao9, co9, eo9⟩ := Kd.R_slice HO.out; subst eo9) | ((with_reducible refine gate_callee (f := 28) rfl ?_); refine goesL_ (some 10) rfl rfl Tryd.func28 (by kernel_rfl) rfl #[.int .i64 a0, .slice Ao9 y.length co9] rfl (by (try simp only [List.map_toArray, List.map_cons, List.map_nil]); first | done | rfl) ?_; (with_reducible refine (canon_circle_valid.calls a0 _ _ y false _ ?side1 ?side2 HV.out).mono ?_); (case side1 => repeat (first | exact (Kd.R_reads' HO.out).2.2 | (with_reducible refine Kd.C_alloc ?_ _) | (with_reducible refine Kd.C_drewN ?_ _) | (with_reducible refine Kd.C_drew ?_))); (case side2 => exact (Kd.R_reads' HO.out).2.1); rintro e w10 ⟨rfl, hb⟩; refine ⟨_, rfl, ?_⟩; have n0_ := Aside0.mk (below_step (by repeat (first | (with_reducible first | exact HB.out | apply below_alloc | apply pw_below_drewN | apply below_drew1) | exact HB.out)) hb); clear HB HO; have HB := n0_; clear n0_ hb))
    go_ret2
    exact ⟨by first | rfl | simp, (by repeat (first | (with_reducible first | exact HB.out | apply below_alloc | apply pw_below_drewN | apply below_drew1) | exact HB.out))⟩

end Go.Proofs.YtkidgakjeahebaaDoor.P
namespace Go.Proofs.YtkidgakjeahebaaDoor.P
open Go.RowKit Go.Proofs.YtkidgakjeahebaaDoorW.PrintWords Go.Proofs.YtkidgakjeahebaaDoorW.PrintLast Go.Proofs.YtkidgakjeahebaaDoorW.PrintMore
attribute [local go_sem] max2_int min2_int max_two min_two max_three min_three max_four min_four   -- for this text's walks alone
set_option linter.unusedVariables false
set_option linter.unusedSimpArgs false

/-! a bit of a small set, and a set with one tone more, as the walk spells them -/
theorem bit_div {a x : Nat} (ha : a < 2 ^ 63) (hx : x ≤ 64) : ∃ sh : Int, (a : Int) / 2 ^ x = sh ∧ Go.bits .and .i64 sh 1 = if a.testBit x then 1 else 0 := by
  refine ⟨_, rfl, ?_⟩
  have h := bit_i64 ha hx
  unfold shr at h
  rw [Int.toNat_natCast, show min x IntKind.i64.bits = x from Nat.min_eq_left (by show x ≤ 64; omega)] at h
  exact h
theorem one_more {n b k : Nat} (hn : n ≤ 62) (hb : b < 2 ^ n) (hk : k < n) : ∃ p2 b2 : Nat, IntKind.i64.wrap ((2 : Int) ^ k) = (p2 : Int) ∧ wrap64 ((2 : Int) ^ k) = (p2 : Int) ∧ Go.bits .or .i64 (b : Int) (p2 : Int) = (b2 : Int) ∧ b ||| 2 ^ k = b2 ∧ b2 < 2 ^ n := by
  have hp : 2 ^ k < 2 ^ n := Nat.pow_lt_pow_right (by omega) hk
  have h63 : 2 ^ n < 2 ^ 63 := Nat.pow_lt_pow_right (by omega) (by omega)
  have h63v : (2 : Nat) ^ 63 = 9223372036854775808 := by decide
  refine ⟨2 ^ k, b ||| 2 ^ k, ?_, ?_, or_i64 (by omega) (by omega), rfl, Nat.or_lt_two_pow hb hp⟩
  · rw [← pow_cast]; generalize 2 ^ k = P at hp ⊢; rw [i64_id (by omega) (by omega)]
  · rw [← pow_cast]; generalize 2 ^ k = P at hp ⊢; rw [wrap_id (by omega) (by omega)]

end Go.Proofs.YtkidgakjeahebaaDoor.P
namespace Go.Proofs.YtkidgakjeahebaaDoor.P
open Go.RowKit Go.Proofs.YtkidgakjeahebaaDoorW.PrintWords Go.Proofs.YtkidgakjeahebaaDoorW.PrintLast Go.Proofs.YtkidgakjeahebaaDoorW.PrintMore
attribute [local go_sem] max2_int min2_int max_two min_two max_three min_three max_four min_four   -- for this text's walks alone
set_option linter.unusedVariables false
set_option linter.unusedSimpArgs false

/-! the law's own function that multiplies a rhythm -/
def timesTo (n m a d : Nat) : Nat := orAll 0 (((List.range d).filter a.testBit).map fun x => m * x % n)
theorem timesTo_succ (n m a d : Nat) : timesTo n m a (d + 1) = if a.testBit d then timesTo n m a d ||| 2 ^ (m * d % n) else timesTo n m a d := by
  unfold timesTo
  rw [List.range_succ, List.filter_append, List.map_append]
  cases h : a.testBit d with
  | true =>
    rw [if_pos rfl]
    simp only [List.filter_cons, h, if_true, List.filter_nil, List.map_cons, List.map_nil]
    exact orAll_snoc 0 _ _
  | false =>
    rw [if_neg (by decide)]
    simp [List.filter_cons, h]
theorem timesTo_lt {n m a : Nat} (hn : 1 ≤ n) (d : Nat) : timesTo n m a d < 2 ^ n := by
  unfold timesTo
  refine orAll_lt _ (fun x hx => ?_) 0 (Nat.two_pow_pos n)
  obtain ⟨y, _, rfl⟩ := List.mem_map.1 hx
  exact Nat.mod_lt _ (by omega)
theorem mul_small {n m x : Nat} (hn : n ≤ 24) (hm : m ≤ 24) (hx : x < n) : m * x ≤ 576 := Nat.le_trans (Nat.mul_le_mul hm (show x ≤ 24 by omega)) (by decide)
theorem times_nums {n m x b : Nat} (hn1 : 1 ≤ n) (hn : n ≤ 24) (hm : m ≤ 24) (hx : x < n) (hb : b < 2 ^ n) : ∃ p t p2 b2 : Nat, (m : Int) * (x : Int) = (p : Int) ∧ wrap64 (p : Int) = (p : Int) ∧ IntKind.i64.wrap (p : Int) = (p : Int) ∧ Int.tmod (p : Int) (n : Int) = (t : Int) ∧ (p : Int) % (n : Int) = (t : Int) ∧ IntKind.i64.wrap ((2 : Int) ^ t) = (p2 : Int) ∧ wrap64 ((2 : Int) ^ t) = (p2 : Int) ∧ Go.bits .or .i64 (b : Int) (p2 : Int) = (b2 : Int) ∧ b2 = b ||| 2 ^ (m * x % n) ∧ t < n := by
  have hp := mul_small hn hm hx
  have ht : m * x % n < n := Nat.mod_lt _ (by omega)
  obtain ⟨p2, b2, r1, r2, r3, hb2, _⟩ := one_more (show n ≤ 62 by omega) hb ht
  refine ⟨m * x, m * x % n, p2, b2, (Int.natCast_mul m x).symm, wrap_id (by omega) (by omega), i64_id (by omega) (by omega), ?_, rfl, r1, r2, r3, hb2.symm, ht⟩
  · rw [Int.tmod_eq_emod_of_nonneg (by omega)]; rfl
set_option maxHeartbeats 4000000 in
set_option maxRecDepth 100000 in
theorem times_calls {n a m : Nat} (hn1 : 1 ≤ n) (hn : n ≤ 24) (hm : m ≤ 24) (ha : a < 2 ^ n) (B0 B1 : Nat) (W : World) (c0 : W.cell? ⟨B0, 0, none⟩ = some (.int .i64 (n : Int))) (c1 : W.cell? ⟨B1, 0, none⟩ = some (.int .i64 (a : Int))) :
    Calls Tryd.prog 16 #[.int .i64 (m : Int), .pointer (some ⟨B0, 0, none⟩), .pointer (some ⟨B1, 0, none⟩)] W fun e w' => e = .returned (.int .i64 (timesTo n m a n : Int)) ∧ w' = W := by
  go_enter Tryd.func16, Tryd.ntmps16
  go_wp2
  go_loopg [5, 8] n (fun gg s5 s8 wr => ∃ d b : Nat, s8 = .int .i64 d ∧ s5 = .int .i64 b ∧ wr = W ∧ Aside0 (d + gg = n) ∧ Aside0 (b = timesTo n m a d))
  case atStart => exact ⟨0, 0, rfl, rfl, rfl, ⟨by omega⟩, ⟨rfl⟩⟩
  case round =>
    obtain ⟨d, b, rfl, rfl, rfl, HD, HBB⟩ := hrel
    have HS := Aside0.mk (timesTo_succ n m a d)
    by_cases hlt : d < n
    · have hltz : (d : Int) < (n : Int) := by omega
      obtain ⟨sh, hsh, hbit⟩ := bit_shr (n := n) (a := a) (x := d) hn ha (by omega)
      cases hb : a.testBit d with
      | true =>
        rw [hb, if_pos rfl] at hbit
        rw [hb, if_pos rfl] at HS
        clear hb
        obtain ⟨p, t, p2, b2, r1, r2, r3, r4, r5, r6, r7, r8, r9, r10⟩ := times_nums (b := b) hn1 hn hm hlt (by rw [HBB.out]; exact timesTo_lt hn1 d)
        have HB2 := Aside0.mk r9
        have hn0 : ((n : Int) == 0) = false := beq_eq_false_iff_ne.2 (by omega)
        have ht64 : t ≤ 64 := by omega
        clear r9 r10
        go_wp2
        go_roundg (gk - 1)
        case measure => have := HD.out; omega
        case rel => exact ⟨d + 1, b2, by go_num, rfl, rfl, ⟨by have := HD.out; omega⟩, ⟨by rw [HS.out, HB2.out, HBB.out]⟩⟩
      | false =>
        rw [hb, if_neg (by decide)] at hbit
        rw [hb, if_neg (by decide)] at HS
        clear hb
        go_wp2
        go_roundg (gk - 1)
        case measure => have := HD.out; omega
        case rel => exact ⟨d + 1, b, by go_num, rfl, rfl, ⟨by have := HD.out; omega⟩, ⟨by rw [HS.out]; exact HBB.out⟩⟩
    · have hdk : d = n := by have := HD.out; omega
      have HDK := Aside0.mk hdk
      clear hdk
      have hltz : ¬ (d : Int) < (n : Int) := by omega
      go_wp2
      go_ret
      exact ⟨by rw [HBB.out, HDK.out]; rfl, rfl⟩

end Go.Proofs.YtkidgakjeahebaaDoor.P
namespace Go.Proofs.YtkidgakjeahebaaDoor.P
/-! Periods of a rhythm. Plain Lean. -/
def IsPer (n a d : Nat) : Prop := 1 ≤ d ∧ d ≤ n ∧ n % d = 0 ∧ moveN n a d = a
instance (n a d : Nat) : Decidable (IsPer n a d) := by unfold IsPer; infer_instance
theorem moveN_all {n a : Nat} (ha : a < 2 ^ n) : moveN n a n = a := by
  unfold moveN
  rw [Nat.sub_self, Nat.pow_zero, Nat.div_one]
  refine bits_ext (n := n) (Nat.lt_of_le_of_lt Nat.and_le_right (by have := Nat.two_pow_pos n; omega)) ha (fun i hi => ?_)
  rw [Nat.testBit_and, Nat.testBit_or, Nat.testBit_two_pow_sub_one, ← Nat.shiftLeft_eq, Nat.testBit_shiftLeft]
  simp [hi, Nat.not_le.2 hi]
theorem isPer_all {n a : Nat} (hn : 1 ≤ n) (ha : a < 2 ^ n) : IsPer n a n := ⟨hn, Nat.le_refl _, Nat.mod_self n, moveN_all ha⟩
theorem least_per {n a : Nat} (hn : 1 ≤ n) (ha : a < 2 ^ n) : ∃ p, IsPer n a p ∧ ∀ d, d < p → ¬ IsPer n a d := by
  have go : ∀ m, (∃ p, p ≤ m ∧ IsPer n a p) → ∃ p, IsPer n a p ∧ ∀ d, d < p → ¬ IsPer n a d := by
    intro m
    induction m with
    | zero =>
      rintro ⟨p, hp, h⟩
      exact ⟨p, h, fun d hd => by omega⟩
    | succ m ih =>
      rintro ⟨p, hp, h⟩
      by_cases hq : ∃ q, q ≤ m ∧ IsPer n a q
      · exact ih hq
      · exact ⟨p, h, fun d hd hd2 => hq ⟨d, by omega, hd2⟩⟩
  exact go n ⟨n, Nat.le_refl _, isPer_all hn ha⟩
theorem per_bit {n a d : Nat} (ha : a < 2 ^ n) (h : IsPer n a d) : ∀ (q x : Nat), x + q * d < n → a.testBit (x + q * d) = a.testBit x := by
  obtain ⟨h1, h2, h3, h4⟩ := h
  intro q
  induction q with
  | zero => intro x _; rw [Nat.zero_mul, Nat.add_zero]
  | succ q ih =>
    intro x hx
    rw [Nat.succ_mul] at hx
    rw [← ih x (by omega)]
    rcases Nat.lt_or_ge d n with c | c
    · have h5 := testBit_moveN (i := x + (q + 1) * d) ha c (by rw [Nat.succ_mul]; omega)
      rw [h4] at h5
      rw [h5]
      congr 1
      rw [Nat.succ_mul, show x + (q * d + d) + (n - d) = x + q * d + n by omega, Nat.add_mod_right, Nat.mod_eq_of_lt (by omega)]
    · omega
/-- the beats of one period, gathered -/
def foldTo (a d : Nat) : Nat → Nat
  | 0 => 0
  | x + 1 => if a.testBit x then foldTo a d x ||| 2 ^ (x % d) else foldTo a d x
theorem foldTo_bit {n a d : Nat} (ha : a < 2 ^ n) (h : IsPer n a d) (i : Nat) : ∀ x, x ≤ n → (foldTo a d x).testBit i = (decide (i < d) && (decide (i < x) && a.testBit i)) := by
  have h1 := h.1
  intro x
  induction x with
  | zero => intro _; simp [foldTo]
  | succ x ih =>
    intro hx
    have hi := ih (by omega)
    have hp := per_bit ha h (x / d) (x % d) (by rw [Nat.mul_comm, Nat.mod_add_div]; omega)
    rw [Nat.mul_comm, Nat.mod_add_div] at hp
    have hmd := Nat.mod_lt x (show d > 0 by omega)
    have hml := Nat.mod_le x d
    simp only [foldTo]
    cases hb : a.testBit x with
    | true =>
      rw [if_pos rfl, Nat.testBit_or, hi, Nat.testBit_two_pow]
      rw [hb] at hp
      by_cases e : x % d = i
      · subst e
        rw [← hp]
        simp only [decide_true, Bool.or_true, Bool.and_true]
        rw [decide_eq_true hmd, decide_eq_true (show x % d < x + 1 by omega)]
        rfl
      · rw [decide_eq_false e, Bool.or_false]
        by_cases hid : i < d
        · rw [decide_eq_true hid, Bool.true_and, Bool.true_and]
          have : decide (i < x) = decide (i < x + 1) := by
            rw [decide_eq_decide]
            have : i ≠ x := fun h => e (by rw [← h, Nat.mod_eq_of_lt hid])
            omega
          rw [this]
        · rw [decide_eq_false hid, Bool.false_and, Bool.false_and]
    | false =>
      rw [if_neg (by simp), hi]
      by_cases e : i = x
      · subst e; rw [hb]; simp
      · have : decide (i < x) = decide (i < x + 1) := by rw [decide_eq_decide]; omega
        rw [this]
theorem foldTo_all {n a d : Nat} (ha : a < 2 ^ n) (h : IsPer n a d) : foldTo a d n = a &&& (2 ^ d - 1) := by
  refine Nat.eq_of_testBit_eq (fun i => ?_)
  rw [foldTo_bit ha h i n (Nat.le_refl _), Nat.testBit_and, Nat.testBit_two_pow_sub_one]
  by_cases hi : i < d
  · have := h.2.1
    rw [decide_eq_true hi, decide_eq_true (show i < n by omega)]; simp
  · rw [decide_eq_false hi]; simp
theorem foldTo_lt {n a d : Nat} (hd : 1 ≤ d) (hdn : d ≤ n) : ∀ x, foldTo a d x < 2 ^ n
  | 0 => Nat.two_pow_pos n
  | x + 1 => by
    have h := foldTo_lt (n := n) (a := a) hd hdn x
    simp only [foldTo]
    split
    · exact Nat.or_lt_two_pow h (Nat.pow_lt_pow_right (by omega) (Nat.lt_of_lt_of_le (Nat.mod_lt x (by omega)) hdn))
    · exact h
end Go.Proofs.YtkidgakjeahebaaDoor.P
namespace Go.Proofs.YtkidgakjeahebaaDoor.P
/-! Partners of a rhythm with a period, and of a rhythm turned. Plain Lean. -/
theorem back_mod {n d x y : Nat} (hd : 1 ≤ d) (hn : n % d = 0) (hy : y < n) : (x + (n - y)) % n % d = (x % d + (d - y % d)) % d := by
  have hdv : d ∣ n := Nat.dvd_of_mod_eq_zero hn
  rw [Nat.mod_mod_of_dvd _ hdv]
  refine add_mod_inj (e := y) (Nat.mod_lt _ hd) (Nat.mod_lt _ hd) ?_
  rw [Nat.mod_add_mod, Nat.mod_add_mod]
  have h1 : (x + (n - y) + y) % d = x % d := by
    rw [show x + (n - y) + y = x + n by omega, Nat.add_mod, hn, Nat.add_zero, Nat.mod_mod]
  have h2 : (x % d + (d - y % d) + y) % d = x % d := by
    have e1 := Nat.div_add_mod y d
    have e2 := Nat.mod_lt y hd
    rw [show x % d + (d - y % d) + y = x % d + d * (y / d + 1) by rw [Nat.mul_add]; omega, Nat.add_mul_mod_self_left, Nat.mod_mod]
  rw [h1, h2]
theorem per_mod {n a d : Nat} (ha : a < 2 ^ n) (h : IsPer n a d) {x : Nat} (hx : x < n) : a.testBit (x % d) = a.testBit x := by
  have hd := h.1
  have := per_bit ha h (x / d) (x % d) (by have := Nat.mod_add_div x d; rw [Nat.mul_comm] at this; omega)
  rw [← this]
  congr 1
  have := Nat.mod_add_div x d; rw [Nat.mul_comm] at this; omega
theorem move_fold {n a d x y : Nat} (ha : a < 2 ^ n) (h : IsPer n a d) (hx : x < n) (hy : y < n) : (moveN n a y).testBit x = (moveN d (a &&& (2 ^ d - 1)) (y % d)).testBit (x % d) := by
  have hd := h.1
  have hb : a &&& (2 ^ d - 1) < 2 ^ d := by have := Nat.two_pow_pos d; have := @Nat.and_le_right a (2 ^ d - 1); omega
  rw [testBit_moveN ha hy hx, testBit_moveN hb (Nat.mod_lt _ hd) (Nat.mod_lt _ hd), ← back_mod hd h.2.2.1 hy, Nat.testBit_and, Nat.testBit_two_pow_sub_one, per_mod ha h (Nat.mod_lt _ (by omega))]
  have : (x + (n - y)) % n % d < d := Nat.mod_lt _ hd
  simp [this]
def modSet (n d c : Nat) : Nat := orAll 0 (((List.range n).filter c.testBit).map (· % d))
theorem modSet_bit {n d c i : Nat} : (modSet n d c).testBit i = true ↔ ∃ y, y < n ∧ c.testBit y = true ∧ y % d = i := by
  unfold modSet
  rw [testBit_orAll]
  simp only [Nat.zero_testBit, Bool.false_or, decide_eq_true_eq, List.mem_map, List.mem_filter, List.mem_range]
  constructor
  · rintro ⟨y, ⟨h1, h2⟩, h3⟩; exact ⟨y, h1, h2, h3⟩
  · rintro ⟨y, h1, h2, h3⟩; exact ⟨y, ⟨h1, h2⟩, h3⟩
theorem modSet_lt {n d c : Nat} (hd : 1 ≤ d) : modSet n d c < 2 ^ d := by
  unfold modSet
  refine orAll_lt _ (fun x hx => ?_) _ (Nat.two_pow_pos d)
  simp only [List.mem_map] at hx
  obtain ⟨y, _, rfl⟩ := hx
  exact Nat.mod_lt _ hd
theorem fold_partner {n a d : Nat} (ha : a < 2 ^ n) (h : IsPer n a d) : (∃ c, c < 2 ^ n ∧ Tiled n a c ∧ c.testBit 0 = true) ↔ (∃ c, c < 2 ^ d ∧ Tiled d (a &&& (2 ^ d - 1)) c ∧ c.testBit 0 = true) := by
  have hd := h.1
  have hdn := h.2.1
  simp only [tiled_fills]
  constructor
  · rintro ⟨c, hc, ⟨h1, h2⟩, h0⟩
    refine ⟨modSet n d c, modSet_lt hd, ⟨fun x hx => ?_, fun x hx y hy z hz hy1 hz1 hy2 hz2 => ?_⟩, modSet_bit.2 ⟨0, by omega, h0, Nat.zero_mod d⟩⟩
    · obtain ⟨y, hy, hcy, hm⟩ := h1 x (by omega)
      refine ⟨y % d, Nat.mod_lt _ hd, modSet_bit.2 ⟨y, hy, hcy, rfl⟩, ?_⟩
      rw [move_fold ha h (by omega) hy, Nat.mod_eq_of_lt hx] at hm; exact hm
    · obtain ⟨y', hy', hcy, rfl⟩ := modSet_bit.1 hy1
      obtain ⟨z', hz', hcz, rfl⟩ := modSet_bit.1 hz1
      have e1 := move_fold ha h (show x < n by omega) hy'
      have e2 := move_fold ha h (show x < n by omega) hz'
      rw [Nat.mod_eq_of_lt hx] at e1 e2
      rw [h2 x (by omega) y' hy' z' hz' hcy hcz (e1.trans hy2) (e2.trans hz2)]
  · rintro ⟨c, hc, ⟨h1, h2⟩, h0⟩
    have hlt : ∀ y, c.testBit y = true → y < d := fun y hy => by
      rcases Nat.lt_or_ge y d with h | h
      · exact h
      · rw [testBit_big hc h] at hy; cases hy
    refine ⟨c, Nat.lt_of_lt_of_le hc (Nat.pow_le_pow_right (by omega) hdn), ⟨fun x hx => ?_, fun x hx y hy z hz hy1 hz1 hy2 hz2 => ?_⟩, h0⟩
    · obtain ⟨y, hy, hcy, hm⟩ := h1 (x % d) (Nat.mod_lt _ hd)
      refine ⟨y, by omega, hcy, ?_⟩
      rw [move_fold ha h hx (by omega), Nat.mod_eq_of_lt hy]; exact hm
    · have _ := hx
      have hyd := hlt y hy1
      have hzd := hlt z hz1
      rw [move_fold ha h hx hy, Nat.mod_eq_of_lt hyd] at hy2
      rw [move_fold ha h hx hz, Nat.mod_eq_of_lt hzd] at hz2
      exact h2 (x % d) (Nat.mod_lt _ hd) y hyd z hzd hy1 hz1 hy2 hz2
/-- the image of a set -/
def imgSet (n : Nat) (f : Nat → Nat) (c : Nat) : Nat := orAll 0 (((List.range n).filter c.testBit).map f)
theorem imgSet_bit {n : Nat} {f : Nat → Nat} {c i : Nat} : (imgSet n f c).testBit i = true ↔ ∃ y, y < n ∧ c.testBit y = true ∧ f y = i := by
  unfold imgSet
  rw [testBit_orAll]
  simp only [Nat.zero_testBit, Bool.false_or, decide_eq_true_eq, List.mem_map, List.mem_filter, List.mem_range]
  constructor
  · rintro ⟨y, ⟨h1, h2⟩, h3⟩; exact ⟨y, h1, h2, h3⟩
  · rintro ⟨y, h1, h2, h3⟩; exact ⟨y, ⟨h1, h2⟩, h3⟩
theorem imgSet_lt {n : Nat} {f : Nat → Nat} {c : Nat} (hf : ∀ x, x < n → f x < n) : imgSet n f c < 2 ^ n := by
  unfold imgSet
  refine orAll_lt _ (fun x hx => ?_) _ (Nat.two_pow_pos n)
  simp only [List.mem_map, List.mem_filter, List.mem_range] at hx
  obtain ⟨y, ⟨h, _⟩, rfl⟩ := hx
  exact hf y h
def neg1 (n x : Nat) : Nat := (n - x) % n
theorem neg1_lt {n x : Nat} (hn : 1 ≤ n) : neg1 n x < n := Nat.mod_lt _ hn
theorem neg1_eq {n x : Nat} (hx : x < n) : neg1 n x = if x = 0 then 0 else n - x := by
  unfold neg1
  by_cases e : x = 0
  · subst e; simp
  · rw [if_neg e, Nat.mod_eq_of_lt (by omega)]
theorem neg1_neg1 {n x : Nat} (hx : x < n) : neg1 n (neg1 n x) = x := by
  have h1 := neg1_eq hx
  have h2 := neg1_eq (n := n) (x := neg1 n x) (neg1_lt (by omega))
  split at h1 <;> split at h2 <;> omega
def negN (n c : Nat) : Nat := imgSet n (neg1 n) c
theorem negN_lt {n c : Nat} (hn : 1 ≤ n) : negN n c < 2 ^ n := imgSet_lt (fun _ _ => neg1_lt hn)
theorem negN_bit {n c i : Nat} (hi : i < n) : (negN n c).testBit i = c.testBit (neg1 n i) := by
  rw [Bool.eq_iff_iff]
  unfold negN
  rw [imgSet_bit]
  constructor
  · rintro ⟨y, hy, hc, rfl⟩; rw [neg1_neg1 hy]; exact hc
  · intro h; exact ⟨neg1 n i, neg1_lt (by omega), h, neg1_neg1 hi⟩
theorem negN_negN {n c : Nat} (hn : 1 ≤ n) (hc : c < 2 ^ n) : negN n (negN n c) = c :=
  bits_ext (negN_lt hn) hc (fun i hi => by rw [negN_bit hi, negN_bit (neg1_lt hn), neg1_neg1 hi])
theorem move_neg {n a x y : Nat} (ha : a < 2 ^ n) (hx : x < n) (hy : y < n) : (moveN n (negN n a) (neg1 n y)).testBit (neg1 n x) = (moveN n a y).testBit x := by
  have hn : 1 ≤ n := by omega
  rw [testBit_moveN (negN_lt hn) (neg1_lt hn) (neg1_lt hn), testBit_moveN ha hy hx, negN_bit (Nat.mod_lt _ hn)]
  congr 1
  have h1 := neg1_eq hx
  have h2 := neg1_eq hy
  have hm : ∀ u, u < 2 * n → u % n = if u < n then u else u - n := fun u hu => by
    by_cases e : u < n
    · rw [if_pos e, Nat.mod_eq_of_lt e]
    · rw [if_neg e, Nat.mod_eq_sub_mod (by omega), Nat.mod_eq_of_lt (by omega)]
  have e1 : ∀ v, v = (neg1 n x + (n - neg1 n y)) % n → neg1 n v = (x + (n - y)) % n := by
    intro v hv
    by_cases hy0 : y = 0
    · subst hy0
      simp only [if_true] at h2
      rw [h2, Nat.sub_zero, Nat.add_mod_right, Nat.mod_eq_of_lt (neg1_lt hn)] at hv
      subst hv
      rw [neg1_neg1 hx, Nat.sub_zero, Nat.add_mod_right, Nat.mod_eq_of_lt hx]
    · rw [if_neg hy0] at h2
      rw [hm _ (by have := neg1_lt (x := x) hn; omega)] at hv
      have hvn : v < n := by have := neg1_lt (x := x) hn; split at hv <;> omega
      have h3 := neg1_eq hvn
      rw [h3, hm _ (by omega)]
      split at h1 <;> split at hv <;> split <;> split <;> omega
  exact e1 _ rfl
theorem tiled_neg {n a c : Nat} (ha : a < 2 ^ n) (h : Tiled n a c) : Tiled n (negN n a) (negN n c) := by
  rw [tiled_fills] at h ⊢
  obtain ⟨h1, h2⟩ := h
  refine ⟨fun x hx => ?_, fun x hx y hy z hz hy1 hz1 hy2 hz2 => ?_⟩
  · have hn : 1 ≤ n := by omega
    obtain ⟨y, hy, hc, hm⟩ := h1 (neg1 n x) (neg1_lt hn)
    refine ⟨neg1 n y, neg1_lt hn, ?_, ?_⟩
    · rw [negN_bit (neg1_lt hn), neg1_neg1 hy]; exact hc
    · have := move_neg ha (neg1_lt (x := x) hn) hy
      rw [neg1_neg1 hx] at this
      rw [this]; exact hm
  · have hn : 1 ≤ n := by omega
    rw [negN_bit hy] at hy1
    rw [negN_bit hz] at hz1
    have e1 := move_neg ha (neg1_lt (x := x) hn) (neg1_lt (x := y) hn)
    have e2 := move_neg ha (neg1_lt (x := x) hn) (neg1_lt (x := z) hn)
    rw [neg1_neg1 hx, neg1_neg1 hy] at e1
    rw [neg1_neg1 hx, neg1_neg1 hz] at e2
    have := h2 (neg1 n x) (neg1_lt hn) (neg1 n y) (neg1_lt hn) (neg1 n z) (neg1_lt hn) hy1 hz1 (e1.symm.trans hy2) (e2.symm.trans hz2)
    rw [← neg1_neg1 hy, this, neg1_neg1 hz]
end Go.Proofs.YtkidgakjeahebaaDoor.P
namespace Go.Proofs.YtkidgakjeahebaaDoor.P
/-! Of two rhythms that fill a circle of at most 24 beats one has a period: one of them has at most four beats; all such are looked through. Plain Lean. -/
/-- the search for partners, over the beats of a, with a test at each end -/
def visOk (n a full : Nat) (al : List Nat) (ok : Nat → Bool) : Nat → Nat → Nat → Bool
  | 0, _, _ => true
  | d + 1, b, F => bif Nat.beq F full then ok b else
      let f := freeAt n F
      al.all fun x =>
        let k := (f + (n - x)) % n
        let m := moveN n a k
        bif Nat.beq (m &&& F) 0 then visOk n a full al ok d (b ||| 2 ^ k) (F ||| m) else true
theorem visOk_spec {n a : Nat} {al : List Nat} {ok : Nat → Bool} (hal : ∀ x, x < n → a.testBit x = true → x ∈ al) : ∀ (d b F : Nat), visOk n a (2 ^ n - 1) al ok d b F = true → ∀ c ∈ vis n a (stA n a) d b F, ok c = true
  | 0, b, F, _, c, hc => by simp [vis] at hc
  | d + 1, b, F, h, c, hc => by
    simp only [vis] at hc
    simp only [visOk] at h
    by_cases e : F = 2 ^ n - 1
    · rw [if_pos e, List.mem_singleton] at hc
      rw [show Nat.beq F (2 ^ n - 1) = true from Nat.beq_eq.mpr e, cond_true] at h
      rw [hc]; exact h
    · rw [if_neg e, List.mem_flatMap] at hc
      rw [show Nat.beq F (2 ^ n - 1) = false from by rw [Bool.eq_false_iff]; exact fun h => e (Nat.eq_of_beq_eq_true h), cond_false, List.all_eq_true] at h
      obtain ⟨x, hx, hc⟩ := hc
      rw [List.mem_range] at hx
      unfold stA at hc
      cases hb : a.testBit x with
      | false => rw [hb] at hc; simp at hc
      | true =>
        rw [hb] at hc
        simp only [if_true] at hc
        have h2 := h x (hal x hx hb)
        by_cases hm : moveN n a ((freeAt n F + (n - x)) % n) &&& F = 0
        · rw [if_pos hm] at hc
          rw [show Nat.beq (moveN n a ((freeAt n F + (n - x)) % n) &&& F) 0 = true from Nat.beq_eq.mpr hm, cond_true] at h2
          exact visOk_spec hal d _ _ h2 c hc
        · rw [if_neg hm] at hc; cases hc
/-- has a period below the circle -/
def perB (n a : Nat) : Bool := (List.range n).any fun d => decide (1 ≤ d) && (decide (n % d = 0) && Nat.beq (moveN n a d) a)
theorem perB_iff {n a : Nat} : perB n a = true ↔ ∃ d, d < n ∧ IsPer n a d := by
  unfold perB IsPer
  rw [List.any_eq_true]
  constructor
  · rintro ⟨d, hd, h⟩
    rw [List.mem_range] at hd
    simp only [Bool.and_eq_true, decide_eq_true_iff] at h
    exact ⟨d, hd, h.1, by omega, h.2.1, Nat.eq_of_beq_eq_true h.2.2⟩
  · rintro ⟨d, hd, h1, _, h2, h3⟩
    refine ⟨d, List.mem_range.2 hd, ?_⟩
    simp only [Bool.and_eq_true, decide_eq_true_iff]
    exact ⟨h1, h2, Nat.beq_eq.mpr h3⟩
def setOf (al : List Nat) : Nat := al.foldl (fun s x => s ||| 2 ^ x) 0
def chkA (n : Nat) (al : List Nat) : Bool :=
  let a := setOf al
  perB n a || visOk n a (2 ^ n - 1) al (perB n) (n + 1) 1 a
/-- all rising lists of k numbers from lo to n - 1 behind some -/
def chkR (n : Nat) : Nat → Nat → List Nat → Bool
  | 0, _, al => chkA n al
  | k + 1, lo, al => (List.range (n - lo)).all fun i => chkR n k (lo + i + 1) (al ++ [lo + i])
def chkN (n : Nat) : Bool := [1, 2, 3, 4].all fun s => decide (n % s ≠ 0) || chkR n (s - 1) 1 [0]
theorem chkR_spec {n : Nat} : ∀ (k lo : Nat) (al l : List Nat), chkR n k lo al = true → l.length = k → l.Pairwise (· < ·) → (∀ x ∈ l, lo ≤ x ∧ x < n) → chkA n (al ++ l) = true
  | 0, lo, al, l, h, hl, _, _ => by
    rw [List.length_eq_zero_iff] at hl
    subst hl
    rw [List.append_nil]; exact h
  | k + 1, lo, al, x :: l, h, hl, hp, hr => by
    simp only [chkR, List.all_eq_true, List.mem_range] at h
    have hx := hr x (by simp)
    have h2 := h (x - lo) (by omega)
    rw [show lo + (x - lo) = x by omega] at h2
    rw [List.pairwise_cons] at hp
    have := chkR_spec k (x + 1) (al ++ [x]) l h2 (by simpa using hl) hp.2 (fun y hy => ⟨hp.1 y hy, (hr y (by simp [hy])).2⟩)
    rwa [List.append_assoc] at this
  | k + 1, _, _, [], _, hl, _, _ => by simp at hl
set_option maxHeartbeats 20000000 in
theorem chk_2 : chkN 2 = true := by kernel_rfl
set_option maxHeartbeats 20000000 in
theorem chk_3 : chkN 3 = true := by kernel_rfl
set_option maxHeartbeats 20000000 in
theorem chk_4 : chkN 4 = true := by kernel_rfl
set_option maxHeartbeats 20000000 in
theorem chk_5 : chkN 5 = true := by kernel_rfl
set_option maxHeartbeats 20000000 in
theorem chk_6 : chkN 6 = true := by kernel_rfl
set_option maxHeartbeats 20000000 in
theorem chk_7 : chkN 7 = true := by kernel_rfl
set_option maxHeartbeats 20000000 in
theorem chk_8 : chkN 8 = true := by kernel_rfl
set_option maxHeartbeats 20000000 in
theorem chk_9 : chkN 9 = true := by kernel_rfl
set_option maxHeartbeats 20000000 in
theorem chk_10 : chkN 10 = true := by kernel_rfl
set_option maxHeartbeats 20000000 in
theorem chk_11 : chkN 11 = true := by kernel_rfl
set_option maxHeartbeats 20000000 in
theorem chk_12 : chkN 12 = true := by kernel_rfl
set_option maxHeartbeats 20000000 in
theorem chk_13 : chkN 13 = true := by kernel_rfl
set_option maxHeartbeats 20000000 in
theorem chk_14 : chkN 14 = true := by kernel_rfl
set_option maxHeartbeats 20000000 in
theorem chk_15 : chkN 15 = true := by kernel_rfl
set_option maxHeartbeats 20000000 in
theorem chk_16 : chkN 16 = true := by kernel_rfl
set_option maxHeartbeats 20000000 in
theorem chk_17 : chkN 17 = true := by kernel_rfl
set_option maxHeartbeats 20000000 in
theorem chk_18 : chkN 18 = true := by kernel_rfl
set_option maxHeartbeats 20000000 in
theorem chk_19 : chkN 19 = true := by kernel_rfl
set_option maxHeartbeats 20000000 in
theorem chk_20 : chkN 20 = true := by kernel_rfl
set_option maxHeartbeats 20000000 in
theorem chk_21 : chkN 21 = true := by kernel_rfl
set_option maxHeartbeats 20000000 in
theorem chk_22 : chkN 22 = true := by kernel_rfl
set_option maxHeartbeats 20000000 in
theorem chk_23 : chkN 23 = true := by kernel_rfl
set_option maxHeartbeats 20000000 in
theorem chk24_1 : chkR 24 2 2 [0, 1] = true := by kernel_rfl
set_option maxHeartbeats 20000000 in
theorem chk24_2 : chkR 24 2 3 [0, 2] = true := by kernel_rfl
set_option maxHeartbeats 20000000 in
theorem chk24_3 : chkR 24 2 4 [0, 3] = true := by kernel_rfl
set_option maxHeartbeats 20000000 in
theorem chk24_4 : chkR 24 2 5 [0, 4] = true := by kernel_rfl
set_option maxHeartbeats 20000000 in
theorem chk24_5 : chkR 24 2 6 [0, 5] = true := by kernel_rfl
set_option maxHeartbeats 20000000 in
theorem chk24_6 : chkR 24 2 7 [0, 6] = true := by kernel_rfl
set_option maxHeartbeats 20000000 in
theorem chk24_7 : chkR 24 2 8 [0, 7] = true := by kernel_rfl
set_option maxHeartbeats 20000000 in
theorem chk24_8 : chkR 24 2 9 [0, 8] = true := by kernel_rfl
set_option maxHeartbeats 20000000 in
theorem chk24_9 : chkR 24 2 10 [0, 9] = true := by kernel_rfl
set_option maxHeartbeats 20000000 in
theorem chk24_10 : chkR 24 2 11 [0, 10] = true := by kernel_rfl
set_option maxHeartbeats 20000000 in
theorem chk24_11 : chkR 24 2 12 [0, 11] = true := by kernel_rfl
set_option maxHeartbeats 20000000 in
theorem chk24_12 : chkR 24 2 13 [0, 12] = true := by kernel_rfl
set_option maxHeartbeats 20000000 in
theorem chk24_13 : chkR 24 2 14 [0, 13] = true := by kernel_rfl
set_option maxHeartbeats 20000000 in
theorem chk24_14 : chkR 24 2 15 [0, 14] = true := by kernel_rfl
set_option maxHeartbeats 20000000 in
theorem chk24_15 : chkR 24 2 16 [0, 15] = true := by kernel_rfl
set_option maxHeartbeats 20000000 in
theorem chk24_16 : chkR 24 2 17 [0, 16] = true := by kernel_rfl
set_option maxHeartbeats 20000000 in
theorem chk24_17 : chkR 24 2 18 [0, 17] = true := by kernel_rfl
set_option maxHeartbeats 20000000 in
theorem chk24_18 : chkR 24 2 19 [0, 18] = true := by kernel_rfl
set_option maxHeartbeats 20000000 in
theorem chk24_19 : chkR 24 2 20 [0, 19] = true := by kernel_rfl
set_option maxHeartbeats 20000000 in
theorem chk24_20 : chkR 24 2 21 [0, 20] = true := by kernel_rfl
set_option maxHeartbeats 20000000 in
theorem chk24_21 : chkR 24 2 22 [0, 21] = true := by kernel_rfl
set_option maxHeartbeats 20000000 in
theorem chk24_22 : chkR 24 2 23 [0, 22] = true := by kernel_rfl
set_option maxHeartbeats 20000000 in
theorem chk24_23 : chkR 24 2 24 [0, 23] = true := by kernel_rfl
set_option maxHeartbeats 20000000 in
theorem chk24_s : ([1, 2, 3].all fun s => decide (24 % s ≠ 0) || chkR 24 (s - 1) 1 [0]) = true := by kernel_rfl
theorem chk24_all : chkR 24 3 1 [0] = true := by
  have h : chkR 24 3 1 [0] = (List.range 23).all fun i => chkR 24 2 (1 + i + 1) ([0] ++ [1 + i]) := rfl
  rw [h, List.all_eq_true]
  intro i hi
  rw [List.mem_range] at hi
  match i, hi with
  | 0, _ => exact chk24_1
  | 1, _ => exact chk24_2
  | 2, _ => exact chk24_3
  | 3, _ => exact chk24_4
  | 4, _ => exact chk24_5
  | 5, _ => exact chk24_6
  | 6, _ => exact chk24_7
  | 7, _ => exact chk24_8
  | 8, _ => exact chk24_9
  | 9, _ => exact chk24_10
  | 10, _ => exact chk24_11
  | 11, _ => exact chk24_12
  | 12, _ => exact chk24_13
  | 13, _ => exact chk24_14
  | 14, _ => exact chk24_15
  | 15, _ => exact chk24_16
  | 16, _ => exact chk24_17
  | 17, _ => exact chk24_18
  | 18, _ => exact chk24_19
  | 19, _ => exact chk24_20
  | 20, _ => exact chk24_21
  | 21, _ => exact chk24_22
  | 22, _ => exact chk24_23
  | i + 23, h => exact absurd h (by omega)
theorem chk_24 : chkN 24 = true := by
  have h := chk24_s
  have h4 := chk24_all
  rw [List.all_eq_true] at h
  unfold chkN
  rw [List.all_eq_true]
  intro s hs
  by_cases e : s = 4
  · subst e
    rw [show 4 - 1 = 3 from rfl, h4, Bool.or_true]
  · exact h s (by simp at hs ⊢; omega)
theorem chk_all (n : Nat) (h : n < 25) (h2 : 2 ≤ n) : chkN n = true := by
  match n, h, h2 with
  | 2, _, _ => exact chk_2
  | 3, _, _ => exact chk_3
  | 4, _, _ => exact chk_4
  | 5, _, _ => exact chk_5
  | 6, _, _ => exact chk_6
  | 7, _, _ => exact chk_7
  | 8, _, _ => exact chk_8
  | 9, _, _ => exact chk_9
  | 10, _, _ => exact chk_10
  | 11, _, _ => exact chk_11
  | 12, _, _ => exact chk_12
  | 13, _, _ => exact chk_13
  | 14, _, _ => exact chk_14
  | 15, _, _ => exact chk_15
  | 16, _, _ => exact chk_16
  | 17, _, _ => exact chk_17
  | 18, _, _ => exact chk_18
  | 19, _, _ => exact chk_19
  | 20, _, _ => exact chk_20
  | 21, _, _ => exact chk_21
  | 22, _, _ => exact chk_22
  | 23, _, _ => exact chk_23
  | 24, _, _ => exact chk_24
  | 0, _, h => exact absurd h (by omega)
  | 1, _, h => exact absurd h (by omega)
  | n + 25, h, _ => exact absurd h (by omega)
theorem tiled_symm {n a b : Nat} (ha : a < 2 ^ n) (hb : b < 2 ^ n) (h : Tiled n a b) : Tiled n b a := by
  intro x hx
  have h1 := h x hx
  rw [← h1]
  unfold cv
  have hf : ∀ i, i < n → (x + (n - i)) % n < n := fun i hi => Nat.mod_lt _ (by omega)
  have hff : ∀ i, i < n → (x + (n - (x + (n - i)) % n)) % n = i := fun i hi => sub_mod_two hx hi
  rw [← cnt_perm (f := fun i => (x + (n - i)) % n) hf (fun i hi j hj e => by rw [← hff i hi, ← hff j hj]; exact congrArg (fun z => (x + (n - z)) % n) e) (fun y => b.testBit y && (moveN n a y).testBit x)]
  refine cnt_congr (fun y hy => ?_)
  rw [testBit_moveN hb hy hx, testBit_moveN ha (hf y hy) hx, hff y hy, Bool.and_comm]
theorem foldl_set (l : List Nat) : ∀ s, l.foldl (fun s x => s ||| 2 ^ x) s = orAll s l := fun _ => rfl
theorem setOf_filter {n a : Nat} (ha : a < 2 ^ n) : setOf ((List.range n).filter a.testBit) = a := by
  show orAll 0 _ = a
  refine bits_ext (orAll_lt _ (fun x hx => List.mem_range.1 (List.mem_filter.1 hx).1) 0 (Nat.two_pow_pos n)) ha (fun i hi => ?_)
  rw [testBit_orAll, Nat.zero_testBit, Bool.false_or, Bool.eq_iff_iff, decide_eq_true_iff, List.mem_filter, List.mem_range]
  exact ⟨fun h => h.2, fun h => ⟨hi, h⟩⟩
theorem small_side {n a b : Nat} (hn : 2 ≤ n) (hn2 : n ≤ 24) (ha : a < 2 ^ n) (hb : b < 2 ^ n) (a0 : a.testBit 0 = true) (b0 : b.testBit 0 = true) (h : Tiled n a b) (hs : chSize n a ≤ 4) : perB n a = true ∨ perB n b = true := by
  obtain ⟨al, hal⟩ : ∃ al, al = (List.range n).filter a.testBit := ⟨_, rfl⟩
  have hset : setOf al = a := by rw [hal]; exact setOf_filter ha
  have hlen : al.length = chSize n a := by rw [hal, chSize_cnt, cnt_eq, List.countP_eq_length_filter]
  have hp : al.Pairwise (· < ·) := by rw [hal]; exact List.Pairwise.filter _ List.pairwise_lt_range
  have hm : ∀ x, x ∈ al ↔ x < n ∧ a.testBit x = true := fun x => by rw [hal, List.mem_filter, List.mem_range]
  have hsz := tiled_size ha h
  obtain ⟨y, l, e⟩ : ∃ y l, al = y :: l := by
    cases al with
    | nil => exact absurd ((hm 0).2 ⟨by omega, a0⟩) (by simp)
    | cons y l => exact ⟨y, l, rfl⟩
  rw [e, List.pairwise_cons] at hp
  have hy : y = 0 := by
    have := (hm 0).2 ⟨by omega, a0⟩
    rw [e] at this
    rcases List.mem_cons.1 this with h | h
    · exact h.symm
    · have := hp.1 0 h; omega
  subst hy
  have hc := chk_all n (by omega) hn
  unfold chkN at hc
  rw [List.all_eq_true] at hc
  have hl : l.length + 1 = chSize n a := by rw [← hlen, e]; rfl
  have hmem : chSize n a ∈ [1, 2, 3, 4] := by
    have : chSize n a = 1 ∨ chSize n a = 2 ∨ chSize n a = 3 ∨ chSize n a = 4 := by omega
    simp [this]
  have h1 := hc _ hmem
  have hdiv : n % chSize n a = 0 := Nat.mod_eq_zero_of_dvd ⟨chSize n b, hsz.symm⟩
  rw [decide_eq_false (by simp [hdiv]), Bool.false_or] at h1
  have h2 := chkR_spec (chSize n a - 1) 1 [0] l h1 (by omega) hp.2 (fun x hx => ⟨hp.1 x hx, ((hm x).1 (by rw [e]; simp [hx])).1⟩)
  rw [show [0] ++ l = al by rw [e]; rfl] at h2
  unfold chkA at h2
  simp only [hset, Bool.or_eq_true] at h2
  rcases h2 with h2 | h2
  · exact .inl h2
  · right
    refine visOk_spec (fun x hx hb => (hm x).2 ⟨hx, hb⟩) _ _ _ h2 b ?_
    exact ((partners_spec (by omega) ha a0 (stepOk_A ha)).2 b).2 ⟨hb, h, b0⟩
/-- **of two rhythms that fill the circle one has a period below it** -/
theorem hajos {n a b : Nat} (hn : 2 ≤ n) (hn2 : n ≤ 24) (ha : a < 2 ^ n) (hb : b < 2 ^ n) (a0 : a.testBit 0 = true) (b0 : b.testBit 0 = true) (h : Tiled n a b) : perB n a = true ∨ perB n b = true := by
  have hsz := tiled_size ha h
  by_cases hs : chSize n a ≤ 4
  · exact small_side hn hn2 ha hb a0 b0 h hs
  · have h4 : chSize n b ≤ 4 := by
      rcases Nat.lt_or_ge 4 (chSize n b) with h5 | h5
      · have := Nat.mul_le_mul (show 5 ≤ chSize n a by omega) (show 5 ≤ chSize n b by omega)
        omega
      · exact h5
    exact (small_side hn hn2 hb ha b0 a0 (tiled_symm ha hb h) h4).symm
end Go.Proofs.YtkidgakjeahebaaDoor.P
namespace Go.Proofs.YtkidgakjeahebaaDoor.P
/-! Tijdeman: a tile multiplied by a number without a common factor is a tile with the same partner -/
/-- all that a list moves a function to, summed -/
def sumOp (A : List Int) (f : Int → Int) (x : Int) : Int := (A.map fun a => f (x - a)).sum
def iterOp (A : List Int) : Nat → (Int → Int) → Int → Int
  | 0, f => f
  | k + 1, f => sumOp A (iterOp A k f)
def bin : Nat → Nat → Nat
  | _, 0 => 1
  | 0, _ + 1 => 0
  | n + 1, k + 1 => bin n k + bin n (k + 1)
theorem bin_over : ∀ (n k : Nat), n < k → bin n k = 0
  | 0, k + 1, _ => rfl
  | n + 1, k + 1, h => by simp [bin, bin_over n k (by omega), bin_over n (k + 1) (by omega)]
theorem bin_zero (n : Nat) : bin n 0 = 1 := by cases n <;> rfl
theorem bin_self : ∀ n : Nat, bin n n = 1
  | 0 => rfl
  | n + 1 => by simp [bin, bin_self n, bin_over n (n + 1) (by omega)]
/-- a sum over the numbers below a bound -/
def upto (f : Nat → Int) : Nat → Int
  | 0 => 0
  | n + 1 => upto f n + f n
theorem upto_congr {f g : Nat → Int} : ∀ {n : Nat}, (∀ i, i < n → f i = g i) → upto f n = upto g n
  | 0, _ => rfl
  | n + 1, h => by simp only [upto]; rw [upto_congr (fun i hi => h i (by omega)), h n (by omega)]
theorem upto_add (f g : Nat → Int) : ∀ n : Nat, upto (fun i => f i + g i) n = upto f n + upto g n
  | 0 => rfl
  | n + 1 => by simp only [upto, upto_add f g n]; omega
theorem upto_first (f : Nat → Int) : ∀ n : Nat, upto f (n + 1) = f 0 + upto (fun i => f (i + 1)) n
  | 0 => by simp [upto]
  | n + 1 => by rw [upto, upto_first f n]; simp only [upto]; omega
theorem upto_mul (c : Int) (f : Nat → Int) : ∀ n : Nat, upto (fun i => c * f i) n = c * upto f n
  | 0 => by simp [upto]
  | n + 1 => by simp only [upto, upto_mul c f n, Int.mul_add]
theorem sumOp_upto (A : List Int) (F : Nat → Int → Int) (n : Nat) (x : Int) : sumOp A (fun y => upto (fun i => F i y) n) x = upto (fun i => sumOp A (F i) x) n := by
  induction n with
  | zero => unfold sumOp; simp only [upto]; induction A with
    | nil => rfl
    | cons a A ih => simpa using ih
  | succ n ih =>
    have h2 : ∀ B : List Int, sumOp B (fun y => upto (fun i => F i y) (n + 1)) x = sumOp B (fun y => upto (fun i => F i y) n) x + sumOp B (F n) x := by
      intro B
      unfold sumOp; simp only [upto]
      induction B with
      | nil => rfl
      | cons a B ih2 => simp only [List.map_cons, List.sum_cons] at ih2 ⊢; omega
    rw [h2, ih]; rfl
theorem sumOp_mul (A : List Int) (c : Int) (f : Int → Int) (x : Int) : sumOp A (fun y => c * f y) x = c * sumOp A f x := by
  unfold sumOp
  induction A with
  | nil => simp
  | cons a A ih => simp only [List.map_cons, List.sum_cons, Int.mul_add] at ih ⊢; omega
theorem sumOp_move (A : List Int) (f : Int → Int) (c x : Int) : sumOp A (fun y => f (y - c)) x = sumOp A f (x - c) := by
  unfold sumOp
  congr 1
  apply List.map_congr_left
  intro a _
  show f (x - a - c) = f (x - c - a)
  congr 1; omega
theorem sumOp_cons (a : Int) (A : List Int) (f : Int → Int) (x : Int) : sumOp (a :: A) f x = f (x - a) + sumOp A f x := rfl
/-- the binomial theorem for a step and a sum of steps -/
theorem iter_cons (a : Int) (A : List Int) (f : Int → Int) : ∀ (n : Nat) (x : Int), iterOp (a :: A) n f x = upto (fun k => (bin n k : Int) * iterOp A (n - k) f (x - k * a)) (n + 1)
  | 0, x => by simp [iterOp, upto, bin]
  | n + 1, x => by
    have ih := iter_cons a A f n
    have e1 : iterOp (a :: A) (n + 1) f x = upto (fun k => (bin n k : Int) * iterOp A (n - k) f (x - a - k * a)) (n + 1) + upto (fun k => (bin n k : Int) * iterOp A (n + 1 - k) f (x - k * a)) (n + 1) := by
      show sumOp (a :: A) (iterOp (a :: A) n f) x = _
      rw [sumOp_cons, ih, show iterOp (a :: A) n f = fun y => upto (fun k => (bin n k : Int) * iterOp A (n - k) f (y - k * a)) (n + 1) from funext ih, sumOp_upto]
      congr 1
      apply upto_congr
      intro k hk
      rw [sumOp_mul, sumOp_move A (iterOp A (n - k) f)]
      rw [show n + 1 - k = (n - k) + 1 by omega]; rfl
    rw [e1]
    -- the right side: k = 0 apart, Pascal for the others
    rw [upto_first (fun k => (bin (n + 1) k : Int) * iterOp A (n + 1 - k) f (x - k * a)) (n + 1)]
    have e2 : upto (fun i => (bin (n + 1) (i + 1) : Int) * iterOp A (n + 1 - (i + 1)) f (x - ((i + 1 : Nat) : Int) * a)) (n + 1) =
        upto (fun k => (bin n k : Int) * iterOp A (n - k) f (x - a - k * a)) (n + 1) + upto (fun i => (bin n (i + 1) : Int) * iterOp A (n + 1 - (i + 1)) f (x - ((i + 1 : Nat) : Int) * a)) (n + 1) := by
      rw [← upto_add]
      apply upto_congr
      intro i hi
      have e3 : x - ((i + 1 : Nat) : Int) * a = x - a - i * a := by rw [Int.natCast_add, Int.add_mul]; omega
      rw [e3, show n + 1 - (i + 1) = n - i by omega]
      show ((bin n i + bin n (i + 1) : Nat) : Int) * _ = _
      rw [Int.natCast_add, Int.add_mul]
    rw [e2]
    have e4 : upto (fun k => (bin n k : Int) * iterOp A (n + 1 - k) f (x - k * a)) (n + 1 + 1) = upto (fun k => (bin n k : Int) * iterOp A (n + 1 - k) f (x - k * a)) (n + 1) := by
      rw [upto, bin_over n (n + 1) (by omega)]; simp
    rw [← e4, upto_first (fun k => (bin n k : Int) * iterOp A (n + 1 - k) f (x - k * a)) (n + 1)]
    simp only [bin_zero]
    omega
/-- what Frobenius asks of p -/
def Frob (p : Nat) : Prop := 1 ≤ p ∧ ∀ k, 0 < k → k < p → p ∣ bin p k
theorem iter_frob {p : Nat} (hp : Frob p) (f : Int → Int) : ∀ (A : List Int) (x : Int), (p : Int) ∣ iterOp A p f x - (A.map fun a => f (x - p * a)).sum
  | [], x => by
    have : iterOp [] p f x = 0 := by
      obtain ⟨q, rfl⟩ : ∃ q, p = q + 1 := ⟨p - 1, by have := hp.1; omega⟩
      rfl
    rw [this]; simp
  | a :: A, x => by
    have ih := iter_frob hp f A x
    obtain ⟨q, hq⟩ : ∃ q, p = q + 1 := ⟨p - 1, by have := hp.1; omega⟩
    rw [iter_cons, upto]
    have e1 : upto (fun k => (bin p k : Int) * iterOp A (p - k) f (x - k * a)) p = iterOp A p f x + upto (fun i => (bin p (i + 1) : Int) * iterOp A (p - (i + 1)) f (x - ((i + 1 : Nat) : Int) * a)) q := by
      have := upto_first (fun k => (bin p k : Int) * iterOp A (p - k) f (x - k * a)) q
      rw [← hq] at this
      rw [this]
      simp [bin_zero]
    rw [e1, bin_self, Nat.sub_self]
    have e2 : (p : Int) ∣ upto (fun i => (bin p (i + 1) : Int) * iterOp A (p - (i + 1)) f (x - ((i + 1 : Nat) : Int) * a)) q := by
      have : ∀ m, m ≤ q → (p : Int) ∣ upto (fun i => (bin p (i + 1) : Int) * iterOp A (p - (i + 1)) f (x - ((i + 1 : Nat) : Int) * a)) m := by
        intro m
        induction m with
        | zero => intro _; exact Int.dvd_zero _
        | succ m ihm =>
          intro hm
          exact Int.dvd_add (ihm (by omega)) (Int.dvd_mul_of_dvd_left (Int.natCast_dvd_natCast.2 (hp.2 (m + 1) (by omega) (by omega))))
      exact this q (Nat.le_refl _)
    have e3 := Int.dvd_add ih e2
    simp only [List.map_cons, List.sum_cons, iterOp]
    have e4 : iterOp A p f x + upto (fun i => (bin p (i + 1) : Int) * iterOp A (p - (i + 1)) f (x - ((i + 1 : Nat) : Int) * a)) q + ((1 : Nat) : Int) * f (x - p * a) - (f (x - p * a) + (A.map fun a => f (x - p * a)).sum) = iterOp A p f x - (A.map fun a => f (x - p * a)).sum + upto (fun i => (bin p (i + 1) : Int) * iterOp A (p - (i + 1)) f (x - ((i + 1 : Nat) : Int) * a)) q := by
      generalize upto _ q = u
      generalize (A.map fun a => f (x - p * a)).sum = v
      simp only [Int.natCast_one, Int.one_mul]; omega
    rw [e4]; exact e3
/-- A and b fill the circle: each beat once -/
def TilesF (n : Nat) (A : List Int) (b : Int → Int) : Prop := (∀ x, 0 ≤ b x) ∧ (∀ x, b (x + n) = b x) ∧ (∀ x, sumOp A b x = 1)
theorem iter_tiles {n : Nat} {A : List Int} {b : Int → Int} (h : TilesF n A b) : ∀ (k : Nat) (x : Int), iterOp A (k + 1) b x = (A.length : Int) ^ k
  | 0, x => by simpa [iterOp] using h.2.2 x
  | k + 1, x => by
    show sumOp A (iterOp A (k + 1) b) x = _
    rw [show iterOp A (k + 1) b = fun _ => (A.length : Int) ^ k from funext (iter_tiles h k)]
    unfold sumOp
    rw [Int.pow_succ]
    generalize (A.length : Int) ^ k = c
    induction A with
    | nil => simp
    | cons a A ih =>
      have : ∀ B : List Int, (B.map fun _ => c).sum = c * B.length := by
        intro B; induction B with
        | nil => simp
        | cons b B ih => simp only [List.map_cons, List.sum_cons, ih, List.length_cons, Int.natCast_add, Int.mul_add]; omega
      exact this _
theorem sum_const (c : Int) : ∀ B : List Int, (B.map fun _ => c).sum = c * B.length
  | [] => by simp
  | b :: B => by simp only [List.map_cons, List.sum_cons, sum_const c B, List.length_cons, Int.natCast_add, Int.mul_add]; omega
/-- the sum over one time around does not hang on where it begins -/
theorem upto_turn {n : Nat} (b : Int → Int) (hb : ∀ x, b (x + n) = b x) (c : Int) : upto (fun i => b (i + c)) n = upto (fun i => b i) n := by
  have step : ∀ c : Int, upto (fun i => b (i + (c + 1))) n = upto (fun i => b (i + c)) n := by
    intro c
    have h1 := upto_first (fun i => b (i + c)) n
    have h2 : upto (fun i => b (i + c)) (n + 1) = upto (fun i => b (i + c)) n + b (n + c) := rfl
    have h3 : b (n + c) = b (((0 : Nat) : Int) + c) := by rw [Int.add_comm, hb]; simp
    have h4 : upto (fun i => b (((i + 1 : Nat) : Int) + c)) n = upto (fun i => b (i + (c + 1))) n := upto_congr (fun i _ => by congr 1; omega)
    omega
  have up : ∀ k : Nat, ∀ c : Int, upto (fun i => b (i + (c + k))) n = upto (fun i => b (i + c)) n := by
    intro k
    induction k with
    | zero => intro c; simp
    | succ k ih => intro c; rw [← ih c, ← step (c + k)]; apply upto_congr; intro i _; congr 1; omega
  rcases Int.le_total 0 c with h | h
  · obtain ⟨k, rfl⟩ := Int.eq_ofNat_of_zero_le h
    have := up k 0
    simpa using this
  · obtain ⟨k, hk⟩ := Int.eq_ofNat_of_zero_le (show 0 ≤ -c by omega)
    have := up k c
    rw [← this]; apply upto_congr; intro i _; congr 1; omega
theorem upto_sumOp {n : Nat} (b : Int → Int) (hb : ∀ x, b (x + n) = b x) (A : List Int) : upto (fun i => sumOp A b i) n = upto (fun i => b i) n * A.length := by
  induction A with
  | nil => have : ∀ m, upto (fun i => sumOp [] b i) m = 0 := by
             intro m; induction m with
             | zero => rfl
             | succ m ih => rw [upto, ih]; rfl
           rw [this]; simp
  | cons a A ih =>
    simp only [sumOp_cons]
    rw [upto_add, ih]
    have : upto (fun i => b (i - a)) n = upto (fun i => b i) n := by
      rw [← upto_turn b hb (-a)]; apply upto_congr; intro i _; congr 1
    rw [this, List.length_cons, Int.natCast_add, Int.mul_add]; omega
theorem sumOp_period {n : Nat} (b : Int → Int) (hb : ∀ x, b (x + n) = b x) (A : List Int) (x : Int) : sumOp A b (x + n) = sumOp A b x := by
  unfold sumOp
  congr 1
  apply List.map_congr_left
  intro a _
  rw [show x + n - a = (x - a) + n by omega, hb]
theorem upto_ge {f : Nat → Int} : ∀ {n : Nat}, (∀ i, i < n → 1 ≤ f i) → (n : Int) ≤ upto f n
  | 0, _ => by simp [upto]
  | n + 1, h => by have := upto_ge (f := f) (n := n) (fun i hi => h i (by omega)); have := h n (by omega); simp only [upto]; omega
theorem upto_one {f : Nat → Int} : ∀ {n : Nat}, (∀ i, i < n → 1 ≤ f i) → upto f n = n → ∀ i, i < n → f i = 1
  | 0, _, _, _, h => by omega
  | n + 1, h, e, i, hi => by
    have h1 := upto_ge (f := f) (n := n) (fun i hi => h i (by omega))
    have h2 := h n (by omega)
    simp only [upto] at e
    rcases Nat.lt_or_ge i n with h3 | h3
    · exact upto_one (fun i hi => h i (by omega)) (by omega) i h3
    · obtain rfl : i = n := by omega
      omega
theorem period_mod {n : Nat} (f : Int → Int) (hf : ∀ x, f (x + n) = f x) (x : Int) : f x = f (x % n) := by
  have up : ∀ (k : Nat) (x : Int), f (x + n * k) = f x := by
    intro k
    induction k with
    | zero => intro x; simp
    | succ k ih => intro x; rw [Int.natCast_add, Int.mul_add, ← Int.add_assoc]; simp only [Int.natCast_one, Int.mul_one]; rw [hf, ih]
  have h := Int.mul_ediv_add_emod x n
  rcases Int.le_total 0 (x / n) with h0 | h0
  · obtain ⟨k, hk⟩ := Int.eq_ofNat_of_zero_le h0
    rw [hk] at h
    have := up k (x % n)
    rw [← this]; congr 1; omega
  · obtain ⟨k, hk⟩ := Int.eq_ofNat_of_zero_le (show 0 ≤ -(x / n) by omega)
    have e : (n : Int) * (x / n) = -(n * k) := by rw [← hk, Int.mul_neg]; omega
    have := up k x
    rw [← this]; congr 1; omega
theorem tiles_frob {n p : Nat} (hn : 0 < n) (hp : Frob p) (hp1 : 1 < p) (hc : Nat.Coprime p n) {A : List Int} {b : Int → Int} (h : TilesF n A b) : TilesF n (A.map fun a => p * a) b := by
  refine ⟨h.1, h.2.1, ?_⟩
  have hsum := upto_sumOp b h.2.1 A
  rw [show (fun i : Nat => sumOp A b i) = fun _ => (1 : Int) from funext fun i => h.2.2 _] at hsum
  have hone : ∀ m : Nat, upto (fun _ => (1 : Int)) m = m := by
    intro m; induction m with
    | zero => rfl
    | succ m ih => rw [upto, ih]; omega
  rw [hone] at hsum
  have hdv : A.length ∣ n := by
    have : (A.length : Int) ∣ (n : Int) := ⟨_, by rw [Int.mul_comm]; exact hsum⟩
    exact Int.natCast_dvd_natCast.1 this
  have hcA : Nat.Coprime p A.length := Nat.Coprime.coprime_dvd_right hdv hc
  have e0 : ∀ x, sumOp (A.map fun a => p * a) b x = (A.map fun a => b (x - p * a)).sum := by
    intro x; unfold sumOp; rw [List.map_map]; rfl
  have hge : ∀ x, 1 ≤ sumOp (A.map fun a => p * a) b x := by
    intro x
    have h0 : 0 ≤ sumOp (A.map fun a => p * a) b x := by
      unfold sumOp
      generalize (A.map fun a => (p : Int) * a) = B
      induction B with
      | nil => simp
      | cons c B ih => have := h.1 (x - c); simp only [List.map_cons, List.sum_cons]; omega
    have hne : sumOp (A.map fun a => p * a) b x ≠ 0 := by
      intro e
      have hf := iter_frob hp b A x
      rw [← e0, e, Int.sub_zero, show p = (p - 1) + 1 by omega, iter_tiles h] at hf
      rw [show p - 1 + 1 = p by omega, ← Int.natCast_pow] at hf
      have h3 := Int.natCast_dvd_natCast.1 hf
      have h4 := Nat.Coprime.pow_right (p - 1) hcA
      have h5 : p ∣ 1 := by
        have := Nat.dvd_gcd (Nat.dvd_refl p) h3
        rwa [h4] at this
      have := Nat.le_of_dvd (by omega) h5
      omega
    omega
  have hs2 := upto_sumOp b h.2.1 (A.map fun a => (p : Int) * a)
  rw [List.length_map, ← hsum] at hs2
  have hall := upto_one (f := fun i => sumOp (A.map fun a => p * a) b i) (fun i _ => hge _) hs2
  intro x
  rw [period_mod _ (sumOp_period b h.2.1 _) x]
  have h1 := Int.emod_nonneg x (show (n : Int) ≠ 0 by omega)
  have h2 := Int.emod_lt_of_pos x (show (0 : Int) < n by omega)
  have := hall (x % n).toNat (by omega)
  rwa [Int.toNat_of_nonneg h1] at this
def primes23 : List Nat := [2, 3, 5, 7, 11, 13, 17, 19, 23]
theorem frob_primes : ∀ p ∈ primes23, Frob p ∧ 1 < p := by
  have h : ∀ p ∈ primes23, 1 < p ∧ ∀ k, k < p → 0 < k → p ∣ bin p k := by decide +kernel
  intro p hp
  exact ⟨⟨by have := (h p hp).1; omega, fun k h0 h1 => (h p hp).2 k h1 h0⟩, (h p hp).1⟩
theorem tijdeman {n : Nat} (hn : 0 < n) : ∀ (m : Nat), 1 ≤ m → m ≤ 24 → Nat.Coprime m n → ∀ {A : List Int} {b : Int → Int}, TilesF n A b → TilesF n (A.map fun a => m * a) b := by
  intro m
  induction m using Nat.strongRecOn with
  | ind m ih =>
    intro h1 h24 hc A b h
    rcases Nat.eq_or_lt_of_le h1 with e | hlt
    · subst e
      simpa using h
    · have hd : ∀ m, m < 25 → 2 ≤ m → ∃ p ∈ primes23, p ∣ m := by decide +kernel
      obtain ⟨p, hp, q, rfl⟩ := hd m (by omega) hlt
      obtain ⟨hf, hp1⟩ := frob_primes p hp
      have hq : 1 ≤ q := by rcases Nat.eq_zero_or_pos q with e | e; (subst e; simp at hlt); exact e
      have hqlt : q < p * q := by have := Nat.mul_lt_mul_of_lt_of_le hp1 (Nat.le_refl q) hq; omega
      have t1 := tiles_frob hn hf hp1 (Nat.Coprime.coprime_mul_right hc) h
      have t2 := ih q hqlt hq (by omega) (Nat.Coprime.coprime_mul_left hc) t1
      rw [List.map_map] at t2
      have e : ((fun a : Int => (q : Int) * a) ∘ fun a => (p : Int) * a) = fun a => ((p * q : Nat) : Int) * a := by
        funext a
        simp only [Function.comp, Int.natCast_mul]
        rw [← Int.mul_assoc, Int.mul_comm (q : Int)]
      rwa [e] at t2
end Go.Proofs.YtkidgakjeahebaaDoor.P
namespace Go.Proofs.YtkidgakjeahebaaDoor.P
/-! A chord multiplied by a number without a common factor. Plain Lean. -/
theorem mul_inj {m n x y : Nat} (hg : Nat.Coprime m n) (hx : x < n) (hy : y < n) (h : m * x % n = m * y % n) : x = y := by
  have go : ∀ x y : Nat, x < n → y < n → y ≤ x → m * x % n = m * y % n → x = y := by
    intro x y hx hy hle h
    have h1 := Nat.sub_mod_eq_zero_of_mod_eq h
    rw [← Nat.mul_sub] at h1
    have h2 := Nat.Coprime.dvd_of_dvd_mul_left (Nat.Coprime.symm hg) (Nat.dvd_of_mod_eq_zero h1)
    rcases Nat.eq_zero_or_pos (x - y) with h3 | h3
    · omega
    · have := Nat.le_of_dvd h3 h2
      omega
  rcases Nat.le_total y x with c | c
  · exact go x y hx hy c h
  · exact (go y x hy hx c h.symm).symm
def mulN (m n x : Nat) : Nat := m * x % n
theorem mulN_lt {m n : Nat} (hn : 1 ≤ n) (x : Nat) : mulN m n x < n := Nat.mod_lt _ (by omega)
noncomputable def timesN (n c m : Nat) : Nat := imgN (mulN m n) c
theorem timesN_lt {n c m : Nat} (hn : 1 ≤ n) (hc : c < 2 ^ n) : timesN n c m < 2 ^ n := imgN_lt hc (fun x => mulN_lt hn x)
theorem times_bit {n c m x : Nat} (hg : Nat.Coprime m n) (hc : c < 2 ^ n) (hx : x < n) : (timesN n c m).testBit (mulN m n x) = c.testBit x := by
  unfold timesN
  rw [Bool.eq_iff_iff, imgN_bit hc]
  constructor
  · rintro ⟨y, hy, he⟩
    have := mul_inj hg (bit_lt hc hy) hx he
    rw [← this]; exact hy
  · intro h
    exact ⟨x, h, rfl⟩
theorem mul_back {m n x d : Nat} (hd : d < n) : (m * x % n + (n - m * d % n)) % n = m * ((x + (n - d)) % n) % n := by
  have hn : 0 < n := by omega
  have hl := Nat.mod_lt (m * d) hn
  have e1 : ((m * x % n + (n - m * d % n)) % n + m * d % n) % n = m * x % n := by
    rw [Nat.mod_add_mod, show m * x % n + (n - m * d % n) + m * d % n = m * x % n + n by omega, Nat.add_mod_right, Nat.mod_mod]
  have e2 : (m * ((x + (n - d)) % n) % n + m * d % n) % n = m * x % n := by
    rw [Nat.mul_mod_mod, ← Nat.add_mod, ← Nat.mul_add, show x + (n - d) + d = x + n by omega, Nat.mul_add, Nat.add_mul_mod_self_right]
  exact add_mod_inj (e := m * d % n) (Nat.mod_lt _ hn) (Nat.mod_lt _ hn) (e1.trans e2.symm)
theorem times_common {n c m d : Nat} (hg : Nat.Coprime m n) (hc : c < 2 ^ n) (hd : d < n) : common n (timesN n c m) (timesN n c m) (mulN m n d) = common n c c d := by
  rw [common_cnt, common_cnt]
  rw [← cnt_perm (n := n) (f := mulN m n) (fun x _ => mulN_lt (by omega) x) (fun x hx y hy h => mul_inj hg hx hy h)]
  refine cnt_congr (fun x hx => ?_)
  rw [times_bit hg hc hx]
  have e : (mulN m n x + (n - mulN m n d)) % n = mulN m n ((x + (n - d)) % n) := mul_back hd
  rw [e, times_bit hg hc (Nat.mod_lt _ (by omega))]
theorem mul_pos {m n d : Nat} (hg : Nat.Coprime m n) (h1 : 1 ≤ d) (hd : d < n) : 1 ≤ mulN m n d := by
  rcases Nat.eq_zero_or_pos (mulN m n d) with h | h
  · have h2 := Nat.Coprime.dvd_of_dvd_mul_left (Nat.Coprime.symm hg) (Nat.dvd_of_mod_eq_zero h)
    have := Nat.le_of_dvd (by omega) h2
    omega
  · exact h
theorem mul_half {m n d : Nat} (hg : Nat.Coprime m n) (h1 : 1 ≤ d) (hd : 2 * d ≤ n) : 2 * mulN m n d = n ↔ 2 * d = n := by
  have hn : 0 < n := by omega
  have hlt : mulN m n d < n := mulN_lt (by omega) d
  have hpos := mul_pos hg h1 (by omega)
  constructor
  · intro h
    have h2 : m * (2 * d) % n = 0 := by
      have : m * (2 * d) = 2 * (m * d) := by rw [← Nat.mul_assoc, Nat.mul_comm m 2, Nat.mul_assoc]
      rw [this, ← Nat.mul_mod_mod, show 2 * (m * d % n) = n from h, Nat.mod_self]
    have h3 := Nat.Coprime.dvd_of_dvd_mul_left (Nat.Coprime.symm hg) (Nat.dvd_of_mod_eq_zero h2)
    have := Nat.le_of_dvd (by omega) h3
    omega
  · intro h
    have h2 : 2 * mulN m n d % n = 0 := by
      unfold mulN
      rw [Nat.mul_mod_mod, ← Nat.mul_assoc, Nat.mul_comm 2 m, Nat.mul_assoc, h, Nat.mul_mod_left]
    obtain ⟨q, hq⟩ := Nat.dvd_of_mod_eq_zero h2
    have : q = 1 := by
      rcases Nat.lt_or_ge q 1 with c | c
      · have : q = 0 := by omega
        subst this; omega
      · rcases Nat.lt_or_ge q 2 with c2 | c2
        · omega
        · have := Nat.mul_le_mul_left n c2
          omega
    subst this
    omega
theorem times_vec {n c m d y : Nat} (hg : Nat.Coprime m n) (hc : c < 2 ^ n) (h1 : 1 ≤ d) (hd : 2 * d ≤ n) (hy : y = min (mulN m n d) (n - mulN m n d)) : 1 ≤ y ∧ 2 * y ≤ n ∧ vecAt n (timesN n c m) y = vecAt n c d := by
  have hn : 0 < n := by omega
  have hlt : mulN m n d < n := mulN_lt (by omega) d
  have hpos := mul_pos hg h1 (by omega)
  have hh := mul_half hg h1 hd
  have hcm := times_common hg hc (d := d) (by omega)
  refine ⟨by omega, by omega, ?_⟩
  have hyc : common n (timesN n c m) (timesN n c m) y = common n c c d := by
    rcases Nat.le_total (mulN m n d) (n - mulN m n d) with h | h
    · rw [show y = mulN m n d by omega]; exact hcm
    · rw [show y = n - mulN m n d by omega, common_back (by omega)]; exact hcm
  have hyh : 2 * y = n ↔ 2 * d = n := by omega
  unfold vecAt
  by_cases e : 2 * d = n
  · rw [if_pos e, if_pos (hyh.2 e), hyc]
  · rw [if_neg e, if_neg (fun h => e (hyh.1 h)), hyc]
end Go.Proofs.YtkidgakjeahebaaDoor.P
namespace Go.Proofs.YtkidgakjeahebaaDoor.P
/-! A rhythm multiplied by a number without a common factor fills the circle with the same partner. Plain Lean. -/
def memI (n a : Nat) : List Int := ((List.range n).filter a.testBit).map Int.ofNat
def funI (n b : Nat) (x : Int) : Int := if b.testBit (x % (n : Int)).toNat then 1 else 0
theorem emod_sub {n x y : Nat} (hn : 0 < n) : ((x : Int) - (y : Int)) % (n : Int) = (((x + (n - y % n)) % n : Nat) : Int) := by
  have e := Nat.div_add_mod y n
  have hl := Nat.mod_lt y hn
  have h : (x : Int) - (y : Int) = ((x + (n - y % n) : Nat) : Int) + (n : Int) * (-((y / n : Nat) : Int) - 1) := by
    rw [Int.mul_sub, Int.mul_neg, ← Int.natCast_mul, Int.mul_one]
    generalize n * (y / n) = q at e ⊢
    omega
  rw [h, Int.add_mul_emod_self_left]
  rfl
theorem funI_at {n b x y : Nat} (hn : 0 < n) : funI n b ((x : Int) - (y : Int)) = if b.testBit ((x + (n - y % n)) % n) then 1 else 0 := by
  unfold funI
  rw [emod_sub hn, Int.toNat_natCast]
theorem sumOp_count {n b m : Nat} (hn : 0 < n) (x : Nat) : ∀ A : List Nat, sumOp ((A.map Int.ofNat).map fun a => (m : Int) * a) (funI n b) (x : Int) = ((A.countP fun i => b.testBit ((x + (n - m * i % n)) % n) : Nat) : Int)
  | [] => rfl
  | i :: A => by
    have ih := sumOp_count (b := b) (m := m) hn x A
    rw [List.map_cons, List.map_cons, sumOp_cons, ih, List.countP_cons]
    have e : (m : Int) * Int.ofNat i = ((m * i : Nat) : Int) := (Int.natCast_mul m i).symm
    rw [e, funI_at hn]
    cases b.testBit ((x + (n - m * i % n)) % n) <;> simp <;> omega
theorem map_one (A : List Int) : (A.map fun a => ((1 : Nat) : Int) * a) = A := by
  have : (fun a : Int => ((1 : Nat) : Int) * a) = id := by funext a; simp
  rw [this, List.map_id]
theorem count_cv {n a b m : Nat} (hb : b < 2 ^ n) {x : Nat} (hx : x < n) (f : Nat → Nat) (hf : ∀ i, i < n → f i = m * i % n) (hr : ∀ i, i < n → f i < n) (hi : ∀ i, i < n → ∀ j, j < n → f i = f j → i = j) :
    ((List.range n).filter a.testBit).countP (fun i => b.testBit ((x + (n - m * i % n)) % n)) = cv n b (imgSet n f a) n x := by
  rw [List.countP_filter]
  have h2 : ∀ i, i < n → (imgSet n f a).testBit (f i) = a.testBit i := fun i h => by
    rw [Bool.eq_iff_iff, imgSet_bit]
    constructor
    · rintro ⟨y, hy, h3, h4⟩
      rw [← hi y hy i h h4]; exact h3
    · intro h3; exact ⟨i, h, h3, rfl⟩
  unfold cv
  rw [← cnt_perm hr hi (fun y => (imgSet n f a).testBit y && (moveN n b y).testBit x), cnt_eq]
  refine List.countP_congr (fun i hi2 => ?_)
  have hin := List.mem_range.1 hi2
  rw [h2 i hin, testBit_moveN hb (hr i hin) hx, hf i hin, Bool.and_comm]
theorem tilesF_of {n a b : Nat} (hn : 0 < n) (ha : a < 2 ^ n) (hb : b < 2 ^ n) (h : Tiled n a b) : TilesF n (memI n a) (funI n b) := by
  have hper : ∀ x, funI n b (x + n) = funI n b x := fun x => by unfold funI; rw [Int.add_emod_right]
  refine ⟨fun x => by unfold funI; split <;> omega, hper, fun x => ?_⟩
  rw [period_mod _ (sumOp_period _ hper _) x]
  have h1 := Int.emod_nonneg x (show (n : Int) ≠ 0 by omega)
  have h2 := Int.emod_lt_of_pos x (show (0 : Int) < n by omega)
  obtain ⟨y, hy⟩ : ∃ y : Nat, x % (n : Int) = (y : Int) := ⟨(x % (n : Int)).toNat, (Int.toNat_of_nonneg h1).symm⟩
  rw [hy] at h2 ⊢
  have hyn : y < n := by omega
  have e := sumOp_count (n := n) (b := b) (m := 1) hn y ((List.range n).filter a.testBit)
  rw [map_one] at e
  unfold memI
  rw [e, count_cv hb hyn (fun i => i) (fun i hi => by rw [Nat.one_mul, Nat.mod_eq_of_lt hi]) (fun i hi => hi) (fun i _ j _ e => e)]
  have hid : imgSet n (fun i => i) a = a := bits_ext (imgSet_lt (fun _ h => h)) ha (fun i hi => by
    rw [Bool.eq_iff_iff, imgSet_bit]
    constructor
    · rintro ⟨y, _, h3, rfl⟩; exact h3
    · intro h3; exact ⟨i, hi, h3, rfl⟩)
  rw [hid, tiled_symm ha hb h y hyn]
  rfl
/-- **a rhythm multiplied by a number without a common factor has the same partners** -/
theorem times_tiled {n a b m : Nat} (hn : 0 < n) (hm1 : 1 ≤ m) (hm : m ≤ 24) (hc : Nat.Coprime m n) (ha : a < 2 ^ n) (hb : b < 2 ^ n) (h : Tiled n a b) : Tiled n (imgSet n (fun x => m * x % n) a) b := by
  have hlt : imgSet n (fun x => m * x % n) a < 2 ^ n := imgSet_lt (fun _ _ => Nat.mod_lt _ hn)
  refine tiled_symm hb hlt (fun x hx => ?_)
  have ht := (tijdeman hn m hm1 hm hc (tilesF_of hn ha hb h)).2.2 (x : Int)
  unfold memI at ht
  rw [sumOp_count hn, count_cv hb hx (fun x => m * x % n) (fun i _ => rfl) (fun i _ => Nat.mod_lt _ hn) (fun i hi j hj e => mul_inj hc hi hj e)] at ht
  omega
end Go.Proofs.YtkidgakjeahebaaDoor.P
