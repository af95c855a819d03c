/- A part of a proof that a law's Go function returns true for every input, laid by this session's program mp.py (which drives the kit's print). Conditions: as each theorem states them. -/
import Derived.StillTailTactics
import Derived.Sort.QuietIn
import Derived.Laws.EntriesVeiled
import Derived.RowKit
import Derived.Tactics
import Derived.Shelf.Abstract
import Derived.Deep.QuietTactic
import Derived.BigQuiet
import Derived.Test.YtkidgakjeahebaaDoorCCanonLists1
import Derived.Test.YtkidgakjeahebaaDoorCCanonLists2
namespace Go.Proofs.YtkidgakjeahebaaDoor.P
open Go.RowKit Go.Proofs.YtkidgakjeahebaaDoorW.PrintWords Go.Proofs.YtkidgakjeahebaaDoorW.PrintLast Go.Proofs.YtkidgakjeahebaaDoorW.PrintMore
attribute [local go_sem] max2_int min2_int max_two min_two max_three min_three max_four min_four   -- for this text's walks alone
set_option linter.unusedVariables false
set_option linter.unusedSimpArgs false

/-! canon's partners: the first free beat is filled in each way -/
def KeepB (S : Nat) (w w' : World) : Prop := (∀ b, S ≤ b → b < S + 4 → w'.heap[b]? = w.heap[b]?) ∧ w'.heap[1]? = w.heap[1]?
theorem KeepB.refl (S : Nat) (w : World) : KeepB S w w := ⟨fun _ _ _ => rfl, rfl⟩
theorem KeepB.trans {S : Nat} {a b c : World} (h : KeepB S a b) (k : KeepB S b c) : KeepB S a c := ⟨fun i h1 h2 => (k.1 i h1 h2).trans (h.1 i h1 h2), k.2.trans h.2⟩
theorem KeepB.drew (S : Nat) (w : World) (q : Nat) : KeepB S w (w.drewN q) := ⟨fun _ _ _ => rfl, rfl⟩
structure Boxes4 (S n a g : Nat) (lb : Array Value) (w : World) : Prop where
  cn : w.cell? ⟨S, 0, none⟩ = some (.int .i64 (n : Int))
  ca : w.cell? ⟨S + 1, 0, none⟩ = some (.int .i64 (a : Int))
  cm : w.cell? ⟨S + 1 + 1, 0, none⟩ = some (.func (.func g) #[] lb)
  cf : w.cell? ⟨S + 1 + 1 + 1, 0, none⟩ = some (.func (.func 56) #[] #[.pointer (some ⟨S, 0, none⟩), .pointer (some ⟨S + 1 + 1, 0, none⟩), .pointer (some ⟨S + 1, 0, none⟩), .pointer (some ⟨S + 1 + 1 + 1, 0, none⟩)])
theorem Boxes4.keep {S n a g : Nat} {lb : Array Value} {w w' : World} (h : Boxes4 S n a g lb w) (k : KeepB S w w') : Boxes4 S n a g lb w' :=
  ⟨(cell_heap (k.1 _ (by omega) (by omega)) 0).trans h.cn, (cell_heap (k.1 _ (by omega) (by omega)) 0).trans h.ca, (cell_heap (k.1 _ (by omega) (by omega)) 0).trans h.cm, (cell_heap (k.1 _ (by omega) (by omega)) 0).trans h.cf⟩
def took (cont : Bool) (l : List Nat) : List Nat := if cont then l else l.take 1
def FillPost (S : Nat) (J : List Nat → World → Prop) (pre L : List Nat) (cont : Bool) (w : World) (e : Ending) (w' : World) : Prop :=
  e = .returned (.bool (cont || L.isEmpty)) ∧ J (pre ++ took cont L) w' ∧ KeepB S w w'
def visOne (n a d b F x : Nat) : List Nat := match stA n a (freeAt n F) x with
  | some k => if moveN n a k &&& F = 0 then vis n a (stA n a) d (b ||| 2 ^ k) (F ||| moveN n a k) else []
  | none => []
def visTo (n a d b F m : Nat) : List Nat := (List.range m).flatMap (visOne n a d b F)
theorem visTo_succ (n a d b F m : Nat) : visTo n a d b F (m + 1) = visTo n a d b F m ++ visOne n a d b F m := by unfold visTo; rw [List.range_succ]; simp
theorem vis_full {n a d b F : Nat} (h : F = 2 ^ n - 1) : vis n a (stA n a) (d + 1) b F = [b] := by simp only [vis]; rw [if_pos h]
theorem vis_more {n a d b F : Nat} (h : F ≠ 2 ^ n - 1) : vis n a (stA n a) (d + 1) b F = visTo n a d b F n := by simp only [vis]; rw [if_neg h]; rfl
theorem andNot_i64 {n F : Nat} (hn : n ≤ 24) (hF : F < 2 ^ n) : Go.bits .andNot .i64 ((2 ^ n - 1 : Nat) : Int) (F : Int) = (compl n F : Int) := by
  have hp : 2 ^ n ≤ 2 ^ 24 := Nat.pow_le_pow_right (by omega) hn
  have h24 : (2 : Nat) ^ 24 = 16777216 := by decide
  have h0 := Nat.two_pow_pos n
  have hb : IntKind.i64.bits = 64 := rfl
  have h64 : (2 : Nat) ^ 64 = 18446744073709551616 := by decide
  simp only [Go.bits, BitVec.ofInt_natCast, BitVec.toNat_and, BitVec.toNat_not, BitVec.toNat_ofNat, hb]
  rw [Nat.mod_eq_of_lt (show 2 ^ n - 1 < 2 ^ 64 by omega), Nat.mod_eq_of_lt (show F < 2 ^ 64 by omega), h64, compl_and hn hF]
  have := compl_lt n F
  exact i64_id (by omega) (by omega)
section
variable (S n a g : Nat) (lb : Array Value) (cont : Bool) (J : List Nat → World → Prop)
set_option maxHeartbeats 2000000 in
set_option maxRecDepth 100000 in
theorem fill_full (eg : ∀ args w, (callFunc g args).run Tryd.prog w = .ok (.enter g args) w) (hn : 2 ≤ n) (hn2 : n ≤ 24) (b F d : Nat) (pre : List Nat) (w : World) (e : F = 2 ^ n - 1) (hB : Boxes4 S n a g lb w) 
    (hm : ∀ q, Calls Tryd.prog g (#[.int .i64 (b : Int)] ++ lb) (w.drewN q) fun e w' => e = .returned (.bool cont) ∧ J (pre ++ [b]) w' ∧ KeepB S (w.drewN q) w') :
    Calls Tryd.prog 56 #[.int .i64 (b : Int), .int .i64 (F : Int), .pointer (some ⟨S, 0, none⟩), .pointer (some ⟨S + 1 + 1, 0, none⟩), .pointer (some ⟨S + 1, 0, none⟩), .pointer (some ⟨S + 1 + 1 + 1, 0, none⟩)] w
      (FillPost S J pre (vis n a (stA n a) (d + 1) b F) cont w) := by
  rw [vis_full e]
  obtain ⟨cn, ca, cm, cf⟩ := hB
  have HA := Aside0.mk (all_f hn2)
  have heq : ((F : Int) == ((2 ^ n - 1 : Nat) : Int)) = true := by rw [e]; exact beq_self_eq_true _
  have HM := Aside0.mk hm
  clear e hm ca cf
  generalize (2 ^ n - 1 : Nat) = full at HA heq
  go_enter Tryd.func56, Tryd.ntmps56
  go_wp2_with (first | (go_at_call 44; refine (canon_circle_all.calls _ _ _ HA.out).mono ?_; rintro e w' ⟨rfl, ⟨q, rfl⟩⟩) | ((with_reducible refine (HM.out _).mono ?_); rintro e w' ⟨rfl, hj, hk⟩))
  go_ret
  refine ⟨by simp, ?_, KeepB.trans (KeepB.drew S w _) hk⟩
  have : took cont [b] = [b] := by unfold took; cases cont <;> rfl
  rw [this]; exact hj
theorem took_go {cont : Bool} {V L : List Nat} (h : (cont || V.isEmpty) = true) (hc : cont = true ∨ L = []) : took cont V = V ∧ (cont = true ∨ L ++ V = []) := by
  cases cont with
  | true => exact ⟨rfl, .inl rfl⟩
  | false =>
    have hv : V = [] := by simpa using h
    have hl : L = [] := by simpa using hc
    subst hv hl
    exact ⟨rfl, .inr rfl⟩
theorem took_stop {cont : Bool} {V L A O : List Nat} (h : (cont || V.isEmpty) = false) (hc : cont = true ∨ L = []) (hs : ∃ R, A = L ++ O ++ R) (ho : O = V) : (cont || A.isEmpty) = false ∧ L = [] ∧ took cont A = took cont V := by
  obtain ⟨R, hs⟩ := hs
  rw [Bool.or_eq_false_iff] at h
  obtain ⟨h1, h2⟩ := h
  subst h1
  have hl : L = [] := by simpa using hc
  subst hl ho
  cases O with
  | nil => simp at h2
  | cons v V => subst hs; exact ⟨by simp, rfl, by simp [took]⟩
theorem took_all {cont : Bool} {L : List Nat} (hc : cont = true ∨ L = []) : took cont L = L := by
  rcases hc with rfl | rfl
  · rfl
  · cases cont <;> rfl
theorem visTo_split (n a d b F : Nat) {x : Nat} (hx : x < n) : ∃ R, visTo n a d b F n = visTo n a d b F x ++ visOne n a d b F x ++ R := by
  rw [← visTo_succ]
  obtain ⟨r, hr⟩ : ∃ r, n = x + 1 + r := ⟨n - (x + 1), by omega⟩
  have h : ∀ r, ∃ R, visTo n a d b F (x + 1 + r) = visTo n a d b F (x + 1) ++ R := by
    intro r
    induction r with
    | zero => exact ⟨[], by simp⟩
    | succ r ih =>
      obtain ⟨R, hR⟩ := ih
      exact ⟨R ++ visOne n a d b F (x + 1 + r), by rw [← Nat.add_assoc, visTo_succ, hR, List.append_assoc]⟩
  obtain ⟨R, hR⟩ := h r
  exact ⟨R, by rw [← hR, ← hr]⟩
theorem bit_shr {n a x : Nat} (hn : n ≤ 24) (ha : a < 2 ^ n) (hx : x ≤ 64) : ∃ sh : Int, (a : Int) / 2 ^ x = sh ∧ Go.bits .and .i64 sh 1 = if a.testBit x then 1 else 0 := by
  refine ⟨_, rfl, ?_⟩
  have h := bit_r hn ha hx
  unfold shr at h
  rw [Int.toNat_natCast, show min x IntKind.i64.bits = x from Nat.min_eq_left (by show x ≤ 64; omega)] at h
  exact h
theorem round_nums {n a F f x : Nat} (hn2 : n ≤ 24) (ha : a < 2 ^ n) (hF : F < 2 ^ n) (hf : f < n) (hx : x < n) : ((f : Int) - (x : Int) + (n : Int)) % (n : Int) = (((f + (n - x)) % n : Nat) : Int) ∧ Int.tmod ((f : Int) - (x : Int) + (n : Int)) (n : Int) = (((f + (n - x)) % n : Nat) : Int) ∧ ((n : Int) == 0) = false ∧
    canon_circle_move.f (n : Int) (a : Int) (((f + (n - x)) % n : Nat) : Int) = some (moveN n a ((f + (n - x)) % n) : Int) ∧ Go.bits .and .i64 (moveN n a ((f + (n - x)) % n) : Int) (F : Int) = ((moveN n a ((f + (n - x)) % n) &&& F : Nat) : Int) := by
  have hk : (f + (n - x)) % n < n := Nat.mod_lt _ (by omega)
  have e : (f : Int) - (x : Int) + (n : Int) = ((f + (n - x) : Nat) : Int) := by omega
  refine ⟨by rw [e]; omega, ?_, beq_eq_false_iff_ne.2 (by omega), move_f hn2 (by omega) ha, and_r hn2 (moveN_lt n a _) hF⟩
  rw [e, Int.tmod_eq_emod_of_nonneg (by omega)]; omega
theorem next_nums {n b F k m : Nat} (hn2 : n ≤ 24) (hb : b < 2 ^ n) (hF : F < 2 ^ n) (hk : k < n) (hm : m < 2 ^ n) : ∃ p2 b2 F2 : Nat, IntKind.i64.wrap ((2 : Int) ^ k) = (p2 : Int) ∧ wrap64 ((2 : Int) ^ k) = (p2 : Int) ∧ Go.bits .or .i64 (b : Int) (p2 : Int) = (b2 : Int) ∧
    Go.bits .or .i64 (F : Int) (m : Int) = (F2 : Int) ∧ b ||| 2 ^ k = b2 ∧ F ||| m = F2 := by
  have hp : 2 ^ k < 2 ^ n := Nat.pow_lt_pow_right (by omega) hk
  have h24 := pow24 hn2
  refine ⟨2 ^ k, b ||| 2 ^ k, F ||| m, ?_, ?_, or_r hn2 hb hp, or_r hn2 hF hm, rfl, rfl⟩
  · rw [← pow_cast]; generalize 2 ^ k = P at hp ⊢; rw [i64_id (by omega) (by omega)]
  · rw [← pow_cast]; generalize 2 ^ k = P at hp ⊢; rw [wrap_id (by omega) (by omega)]
set_option maxHeartbeats 4000000 in
set_option maxRecDepth 100000 in
theorem fill_free (eg : ∀ args w, (callFunc g args).run Tryd.prog w = .ok (.enter g args) w) (hn : 2 ≤ n) (hn2 : n ≤ 24) (ha : a < 2 ^ n) (b F d : Nat) (pre : List Nat) (w : World) (hP : Part n a b F) (e : F ≠ 2 ^ n - 1) (hB : Boxes4 S n a g lb w) (hT : Tabs w) (hJ : J pre w) (hJd : ∀ s A q, J s A → J s (A.drewN q))
    (ih : ∀ (k : Nat) (pre : List Nat) (w : World), k < n → moveN n a k &&& F = 0 → (moveN n a k).testBit (freeAt n F) = true → Boxes4 S n a g lb w → Tabs w → J pre w → Calls Tryd.prog 56 #[.int .i64 ((b ||| 2 ^ k : Nat) : Int), .int .i64 ((F ||| moveN n a k : Nat) : Int), .pointer (some ⟨S, 0, none⟩), .pointer (some ⟨S + 1 + 1, 0, none⟩), .pointer (some ⟨S + 1, 0, none⟩), .pointer (some ⟨S + 1 + 1 + 1, 0, none⟩)] w
      (FillPost S J pre (vis n a (stA n a) d (b ||| 2 ^ k) (F ||| moveN n a k)) cont w)) :
    Calls Tryd.prog 56 #[.int .i64 (b : Int), .int .i64 (F : Int), .pointer (some ⟨S, 0, none⟩), .pointer (some ⟨S + 1 + 1, 0, none⟩), .pointer (some ⟨S + 1, 0, none⟩), .pointer (some ⟨S + 1 + 1 + 1, 0, none⟩)] w
      (FillPost S J pre (vis n a (stA n a) (d + 1) b F) cont w) := by
  rw [vis_more e]
  obtain ⟨hb, hF, -, -⟩ := hP
  have cn := hB.cn
  obtain ⟨hl1, hl2, hl3, hl4⟩ := free_low hn2 hF e
  have HFS := Aside0.mk (freeAt_spec hF e).1
  have HB := Aside0.mk hB
  have HTB := Aside0.mk hT
  have HA := Aside0.mk (all_f hn2)
  have heq : ((F : Int) == ((2 ^ n - 1 : Nat) : Int)) = false := beq_eq_false_iff_ne.2 (fun h => e (by exact_mod_cast h))
  have hnot := andNot_i64 hn2 hF
  have HTZ := Aside0.mk (fun q => TZ_calls (compl n F) (freeAt n F) hl1 hl2 hl3 hl4 (w.drewN q) (hT.heap rfl))
  have hu : IntKind.u64.wrap (compl n F : Int) = (compl n F : Int) := by
    rw [u64_mod]; have : (2 : Nat) ^ 24 = 16777216 := by decide
    omega
  have HF := Aside0.mk hF
  have HBB := Aside0.mk hb
  have HE := Aside0.mk e
  have HI := Aside0.mk ih
  have HJD := Aside0.mk hJd
  have HJ := Aside0.mk hJ
  have HN := Aside0.mk hn
  have HN2 := Aside0.mk hn2
  have HAA := Aside0.mk ha
  have hn63 : n ≤ 24 := hn2
  clear e hJ hJd ih hF hb hl1 hl2 hl3 hl4 hB hT hn hn2 ha
  generalize hfull : (2 ^ n - 1 : Nat) = full at HA heq hnot
  generalize hcompl : compl n F = cF at hnot HTZ hu
  have HCF := Aside0.mk hcompl
  have HFU := Aside0.mk hfull
  clear hfull hcompl
  go_enter Tryd.func56, Tryd.ntmps56
  go_wp2_with (first | (go_at_call 44; refine (canon_circle_all.calls _ _ _ HA.out).mono ?_; rintro e w' ⟨rfl, ⟨q, rfl⟩⟩) | (go_at_call 57; refine (HTZ.out _).mono ?_; rintro e w' ⟨rfl, rfl⟩))
  obtain ⟨f, hf⟩ : ∃ f, freeAt n F = f := ⟨_, rfl⟩
  rw [hf] at HFS HTZ ⊢
  have HFF := Aside0.mk hf
  clear hf HTZ HA hnot hu heq cn
  go_loopg [27] n (fun gg s27 wr => ∃ x : Nat, s27 = .int .i64 x ∧ Aside0 (x + gg = n) ∧ Aside0 (J (pre ++ visTo n a d b F x) wr) ∧ Aside0 (cont = true ∨ visTo n a d b F x = []) ∧ Aside0 (KeepB S w wr))
  case atStart => exact ⟨0, rfl, ⟨by omega⟩, ⟨by show J (pre ++ []) _; rw [List.append_nil]; exact HJD.out _ _ _ HJ.out⟩, ⟨.inr rfl⟩, ⟨KeepB.drew S w _⟩⟩
  case round =>
    obtain ⟨x, rfl, HX, HJX, HC, HK⟩ := hrel
    by_cases hlt : x < n
    · have hltz : (x : Int) < (n : Int) := by omega
      have cn := (HB.out.keep HK.out).cn
      have ca := (HB.out.keep HK.out).ca
      have cf := (HB.out.keep HK.out).cf
      obtain ⟨sh, hsh, hbit⟩ := bit_shr HN2.out HAA.out (show x ≤ 64 by omega)
      have hx64 : x ≤ 64 := by omega
      have hfn : f < n := HFS.out
      have HS := Aside0.mk (visTo_succ n a d b F x)
      have HO := Aside0.mk (show visOne n a d b F x = match stA n a f x with
        | some k => if moveN n a k &&& F = 0 then vis n a (stA n a) d (b ||| 2 ^ k) (F ||| moveN n a k) else []
        | none => [] by unfold visOne; rw [HFF.out])
      cases hab : a.testBit x with
      | false =>
        rw [hab, if_neg (by decide)] at hbit
        have HO2 := Aside0.mk (show visOne n a d b F x = [] by rw [HO.out]; unfold stA; rw [hab]; rfl)
        clear hab
        go_wp2
        go_roundg (gk - 1)
        case measure => have := HX.out; omega
        case rel =>
          refine ⟨x + 1, by go_num, ⟨by have := HX.out; omega⟩, ⟨?_⟩, ⟨?_⟩, HK⟩
          · rw [HS.out, HO2.out, List.append_nil]; exact HJX.out
          · rw [HS.out, HO2.out, List.append_nil]; exact HC.out
      | true =>
        rw [hab, if_pos rfl] at hbit
        obtain ⟨e1, e2, e3, e4, e5⟩ := round_nums HN2.out HAA.out HF.out HFS.out hlt
        have HO1 := Aside0.mk (show visOne n a d b F x = if moveN n a ((f + (n - x)) % n) &&& F = 0 then vis n a (stA n a) d (b ||| 2 ^ ((f + (n - x)) % n)) (F ||| moveN n a ((f + (n - x)) % n)) else [] by
          rw [HO.out]; unfold stA; rw [hab]; rfl)
        have HMV := Aside0.mk e4
        have hk : (f + (n - x)) % n < n := Nat.mod_lt _ (by omega)
        have HSF := Aside0.mk (show (moveN n a ((f + (n - x)) % n)).testBit (freeAt n F) = true by
          rw [HFF.out]; exact ((stepOk_A HAA.out).1 f x _ HFS.out hlt (by unfold stA; rw [hab]; rfl)).2)
        clear hab e4
        generalize hkk : (f + (n - x)) % n = k at *
        generalize hmm : moveN n a k = m at *
        have HMM := Aside0.mk hmm
        have hm0 : (0 : Int) ≤ (k : Int) := by omega
        clear hkk hmm
        have hk64 : k ≤ 64 := by omega
        by_cases hz : m &&& F = 0
        · have e6 : (((m &&& F : Nat) : Int) == 0) = true := by rw [hz]; rfl
          have HO2 := Aside0.mk (show visOne n a d b F x = vis n a (stA n a) d (b ||| 2 ^ k) (F ||| m) by rw [HO1.out, if_pos hz])
          have HK2 := Aside0.mk hk
          obtain ⟨p2, b2, F2, r1, r2, r3, r4, hb2, hF2⟩ := next_nums HN2.out HBB.out HF.out hk (HMM.out ▸ moveN_lt n a k)
          have hz' := Aside0.mk hz
          rw [hb2, hF2] at HO2
          have HCALL : ∀ q, Calls Tryd.prog 56 #[.int .i64 (b2 : Int), .int .i64 (F2 : Int), .pointer (some ⟨S, 0, none⟩), .pointer (some ⟨S + 1 + 1, 0, none⟩), .pointer (some ⟨S + 1, 0, none⟩), .pointer (some ⟨S + 1 + 1 + 1, 0, none⟩)] (wr.drewN q)
            (FillPost S J (pre ++ visTo n a d b F x) (vis n a (stA n a) d b2 F2) cont (wr.drewN q)) := fun q => by
            have := HI.out k (pre ++ visTo n a d b F x) (wr.drewN q) hk (by rw [HMM.out]; exact hz'.out) (by rw [HMM.out]; exact HSF.out) ((HB.out.keep HK.out).keep (KeepB.drew S wr q)) (HTB.out.heap (HK.out.2.trans rfl)) (HJD.out _ _ _ HJX.out)
            rw [HMM.out, hb2, hF2] at this
            exact this
          have HCALL := Aside0.mk HCALL
          clear hz hz' hb2 hF2 hk
          generalize vis n a (stA n a) d b2 F2 = V at HCALL HO2
          cases hc : (cont || V.isEmpty) with
          | true =>
            have HCQ := Aside0.mk (fun q1 => show Calls Tryd.prog 56 #[.int .i64 (b2 : Int), .int .i64 (F2 : Int), .pointer (some ⟨S, 0, none⟩), .pointer (some ⟨S + 1 + 1, 0, none⟩), .pointer (some ⟨S + 1, 0, none⟩), .pointer (some ⟨S + 1 + 1 + 1, 0, none⟩)] (wr.drewN q1).drew fun e w' => e = .returned (.bool true) ∧ J (pre ++ visTo n a d b F x ++ took cont V) w' ∧ KeepB S w w' from by
              rw [show (wr.drewN q1).drew = wr.drewN (q1 + 1) from rfl]
              exact (HCALL.out _).mono fun e w' h => ⟨h.1.trans (by rw [hc]), h.2.1, HK.out.trans ((KeepB.drew S wr _).trans h.2.2)⟩)
            have hfin := Aside0.mk (took_go hc HC.out)
            clear hc HCALL
            go_wp2_with (go_at_call 42; (with_reducible refine (canon_circle_move.calls _ _ _ _ _ HMV.out).mono ?_); rintro e w' ⟨rfl, ⟨q, rfl⟩⟩)
            have cfq : (wr.drewN q).cell? ⟨S + 1 + 1 + 1, 0, none⟩ = some (.func (.func 56) #[] #[.pointer (some ⟨S, 0, none⟩), .pointer (some ⟨S + 1 + 1, 0, none⟩), .pointer (some ⟨S + 1, 0, none⟩), .pointer (some ⟨S + 1 + 1 + 1, 0, none⟩)]) := cf
            have HCR := Aside0.mk (HCQ.out q)
            generalize wr.drewN q = Wq at cfq HCR ⊢
            clear cn ca cf HCQ
            go_still_tail 13, (by kernel_rfl)
            go_wp2_with ((with_reducible refine HCR.out.mono ?_); rintro e w' ⟨rfl, hj, hk2⟩)
            go_roundg (gk - 1)
            case measure => have := HX.out; omega
            case rel =>
              refine ⟨x + 1, by go_num, ⟨by have := HX.out; omega⟩, ⟨?_⟩, ⟨?_⟩, ⟨hk2⟩⟩
              · rw [HS.out, HO2.out, ← List.append_assoc]; rw [hfin.out.1] at hj; exact hj
              · rw [HS.out, HO2.out]; exact hfin.out.2
          | false =>
            have HCQ := Aside0.mk (fun q1 => show Calls Tryd.prog 56 #[.int .i64 (b2 : Int), .int .i64 (F2 : Int), .pointer (some ⟨S, 0, none⟩), .pointer (some ⟨S + 1 + 1, 0, none⟩), .pointer (some ⟨S + 1, 0, none⟩), .pointer (some ⟨S + 1 + 1 + 1, 0, none⟩)] (wr.drewN q1).drew fun e w' => e = .returned (.bool false) ∧ J (pre ++ visTo n a d b F x ++ took cont V) w' ∧ KeepB S w w' from by
              rw [show (wr.drewN q1).drew = wr.drewN (q1 + 1) from rfl]
              exact (HCALL.out _).mono fun e w' h => ⟨h.1.trans (by rw [hc]), h.2.1, HK.out.trans ((KeepB.drew S wr _).trans h.2.2)⟩)
            have hfin := Aside0.mk (took_stop hc HC.out (visTo_split n a d b F hlt) HO2.out)
            clear hc HCALL
            go_wp2_with (go_at_call 42; (with_reducible refine (canon_circle_move.calls _ _ _ _ _ HMV.out).mono ?_); rintro e w' ⟨rfl, ⟨q, rfl⟩⟩)
            have cfq : (wr.drewN q).cell? ⟨S + 1 + 1 + 1, 0, none⟩ = some (.func (.func 56) #[] #[.pointer (some ⟨S, 0, none⟩), .pointer (some ⟨S + 1 + 1, 0, none⟩), .pointer (some ⟨S + 1, 0, none⟩), .pointer (some ⟨S + 1 + 1 + 1, 0, none⟩)]) := cf
            have HCR := Aside0.mk (HCQ.out q)
            generalize wr.drewN q = Wq at cfq HCR ⊢
            clear cn ca cf HCQ
            go_still_tail 13, (by kernel_rfl)
            go_wp2_with ((with_reducible refine HCR.out.mono ?_); rintro e w' ⟨rfl, hj, hk2⟩)
            go_ret
            refine ⟨by rw [hfin.out.1]; rfl, ?_, hk2⟩
            rw [hfin.out.2.1, List.append_nil] at hj
            rw [hfin.out.2.2]; exact hj
        · have e6 : (((m &&& F : Nat) : Int) == 0) = false := beq_eq_false_iff_ne.2 (by omega)
          have HO2 := Aside0.mk (show visOne n a d b F x = [] by rw [HO1.out, if_neg hz])
          clear hz
          go_wp2_with (go_at_call 42; (with_reducible refine (canon_circle_move.calls _ _ _ _ _ HMV.out).mono ?_); rintro e w' ⟨rfl, ⟨q, rfl⟩⟩)
          go_quiet (fail)
          go_wp2
          go_roundg (gk - 1)
          case measure => have := HX.out; omega
          case rel =>
            refine ⟨x + 1, by go_num, ⟨by have := HX.out; omega⟩, ⟨?_⟩, ⟨?_⟩, ⟨HK.out.trans (KeepB.drew S wr _)⟩⟩
            · rw [HS.out, HO2.out, List.append_nil]; exact HJD.out _ _ _ HJX.out
            · rw [HS.out, HO2.out, List.append_nil]; exact HC.out
    · have hxn : x = n := by have := HX.out; omega
      have HXN := Aside0.mk hxn
      clear hxn
      have hltz : ¬ (x : Int) < (n : Int) := by omega
      go_wp2
      go_ret
      have hj := HJX.out
      have hc := HC.out
      rw [HXN.out] at hj hc
      refine ⟨?_, ?_, HK.out⟩
      · rcases hc with hc | hc <;> simp [hc]
      · rw [took_all hc]; exact hj
theorem fill_calls (eg : ∀ args w, (callFunc g args).run Tryd.prog w = .ok (.enter g args) w) (hn : 2 ≤ n) (hn2 : n ≤ 24) (ha : a < 2 ^ n) (h0 : a.testBit 0 = true) (hJd : ∀ s A q, J s A → J s (A.drewN q))
    (hm : ∀ (pre : List Nat) (b : Nat) (W : World), J pre W → b < 2 ^ n → (Tiled n a b ∧ b.testBit 0 = true) → Calls Tryd.prog g (#[.int .i64 (b : Int)] ++ lb) W fun e w' => e = .returned (.bool cont) ∧ J (pre ++ [b]) w' ∧ KeepB S W w') :
    ∀ (d b F : Nat) (pre : List Nat) (w : World), Part n a b F → b.testBit 0 = true → cnt n (fun i => !F.testBit i) < d → Boxes4 S n a g lb w → Tabs w → J pre w →
    Calls Tryd.prog 56 #[.int .i64 (b : Int), .int .i64 (F : Int), .pointer (some ⟨S, 0, none⟩), .pointer (some ⟨S + 1 + 1, 0, none⟩), .pointer (some ⟨S + 1, 0, none⟩), .pointer (some ⟨S + 1 + 1 + 1, 0, none⟩)] w
      (FillPost S J pre (vis n a (stA n a) d b F) cont w) := by
  intro d
  induction d with
  | zero => intro b F pre w _ _ hd; omega
  | succ d ih =>
    intro b F pre w hP hb0 hd hB hT hJ
    by_cases e : F = 2 ^ n - 1
    · exact fill_full S n a g lb cont J eg hn hn2 b F d pre w e hB (fun q => hm pre b _ (hJd _ _ _ hJ) hP.1 ⟨part_full hP e, hb0⟩)
    · obtain ⟨hf, hf0, _⟩ := freeAt_spec hP.2.1 e
      refine fill_free S n a g lb cont J eg hn hn2 ha b F d pre w hP e hB hT hJ hJd (fun k pre w hk hz hsf hB hT hJ => ?_)
      refine ih _ _ pre w (hP.add hk hz) (by rw [Nat.testBit_or, hb0, Bool.true_or]) ?_ hB hT hJ
      have := cnt_lt_of (p := fun i => !(F ||| moveN n a k).testBit i) (q := fun i => !F.testBit i) n (fun i _ hp => by
            rw [Nat.testBit_or] at hp; cases hq : F.testBit i <;> simp_all) (freeAt n F) hf (by rw [Nat.testBit_or, hsf]; simp) (by rw [hf0]; rfl)
      omega
set_option maxHeartbeats 2000000 in
theorem partners_calls (eg : ∀ args w, (callFunc g args).run Tryd.prog w = .ok (.enter g args) w) (hn : 2 ≤ n) (hn2 : n ≤ 24) (ha : a < 2 ^ n) (h0 : a.testBit 0 = true) (w : World) (hT : Tabs w) (hS : S = w.heap.size) (hJd : ∀ s A q, J s A → J s (A.drewN q))
    (hJ : ∀ W, Below S w W → J [] W)
    (hm : ∀ (pre : List Nat) (b : Nat) (W : World), J pre W → b < 2 ^ n → (Tiled n a b ∧ b.testBit 0 = true) → Calls Tryd.prog g (#[.int .i64 (b : Int)] ++ lb) W fun e w' => e = .returned (.bool cont) ∧ J (pre ++ [b]) w' ∧ KeepB S W w') :
    Calls Tryd.prog 30 #[.int .i64 (n : Int), .int .i64 (a : Int), .func (.func g) #[] lb] w fun e w' => (∃ v, e = .returned v) ∧ J (took cont (vis n a (stA n a) (n + 1) 1 a)) w' := by
  have HC := Aside0.mk (fill_calls S n a g lb cont J eg hn hn2 ha h0 hJd hm)
  have HJ := Aside0.mk hJ
  have HT := Aside0.mk hT
  have HP := Aside0.mk (Part.start (show 1 ≤ n by omega) ha)
  have HS := Aside0.mk hS
  have hmf : ∀ (fn : Fn) (first cap : Array Value) (w : World), (Instr.makeFunc fn first cap).run Tryd.prog w = .ok (.func fn first cap) w := fun _ _ _ _ => rfl
  clear hJ hT hm hJd hS hn hn2 ha h0
  go_enter Tryd.func30, Tryd.ntmps30
  go_wp2_with fail
  obtain ⟨W0, hW0⟩ : ∃ W0, (((w.alloc (.cells #[.int .i64 (n : Int)] 47)).alloc (.cells #[.int .i64 (a : Int)] 3)).alloc (.cells #[.func (.func g) #[] lb] 50)).alloc (.cells #[.func (.func 56) #[] #[.pointer (some ⟨w.heap.size, 0, none⟩), .pointer (some ⟨w.heap.size + 1 + 1, 0, none⟩), .pointer (some ⟨w.heap.size + 1, 0, none⟩), .pointer (some ⟨w.heap.size + 1 + 1 + 1, 0, none⟩)]] 25) = W0 := ⟨_, rfl⟩
  obtain ⟨c0, c1, c2, c3, -, -, -, B0⟩ := four_new w _ _ _ _ _ _ _ _ S HS.out W0 hW0
  rw [hW0, ← HS.out]
  rw [← HS.out] at c3
  have hrun := HC.out (n + 1) 1 a [] W0 HP.out (by decide) start_cnt ⟨c0, c1, c2, c3⟩ (HT.out.below (HS.out ▸ B0)) (HJ.out W0 B0)
  clear hW0 c0 c1 c2 c3 B0 HJ HC
  refine hrun.mono ?_
  rintro e w' ⟨rfl, hj, hk⟩
  generalize (cont || (vis n a (stA n a) (n + 1) 1 a).isEmpty) = bb
  go_wp2
  go_end0
  exact ⟨⟨_, rfl⟩, hj⟩
end

end Go.Proofs.YtkidgakjeahebaaDoor.P
namespace Go.Proofs.YtkidgakjeahebaaDoor.P
/-! Periods of a rhythm. Plain Lean. -/
def IsPer (n a d : Nat) : Prop := 1 ≤ d ∧ d ≤ n ∧ n % d = 0 ∧ moveN n a d = a
instance (n a d : Nat) : Decidable (IsPer n a d) := by unfold IsPer; infer_instance
theorem moveN_all {n a : Nat} (ha : a < 2 ^ n) : moveN n a n = a := by
  unfold moveN
  rw [Nat.sub_self, Nat.pow_zero, Nat.div_one]
  refine bits_ext (n := n) (Nat.lt_of_le_of_lt Nat.and_le_right (by have := Nat.two_pow_pos n; omega)) ha (fun i hi => ?_)
  rw [Nat.testBit_and, Nat.testBit_or, Nat.testBit_two_pow_sub_one, ← Nat.shiftLeft_eq, Nat.testBit_shiftLeft]
  simp [hi, Nat.not_le.2 hi]
theorem isPer_all {n a : Nat} (hn : 1 ≤ n) (ha : a < 2 ^ n) : IsPer n a n := ⟨hn, Nat.le_refl _, Nat.mod_self n, moveN_all ha⟩
theorem least_per {n a : Nat} (hn : 1 ≤ n) (ha : a < 2 ^ n) : ∃ p, IsPer n a p ∧ ∀ d, d < p → ¬ IsPer n a d := by
  have go : ∀ m, (∃ p, p ≤ m ∧ IsPer n a p) → ∃ p, IsPer n a p ∧ ∀ d, d < p → ¬ IsPer n a d := by
    intro m
    induction m with
    | zero =>
      rintro ⟨p, hp, h⟩
      exact ⟨p, h, fun d hd => by omega⟩
    | succ m ih =>
      rintro ⟨p, hp, h⟩
      by_cases hq : ∃ q, q ≤ m ∧ IsPer n a q
      · exact ih hq
      · exact ⟨p, h, fun d hd hd2 => hq ⟨d, by omega, hd2⟩⟩
  exact go n ⟨n, Nat.le_refl _, isPer_all hn ha⟩
theorem per_bit {n a d : Nat} (ha : a < 2 ^ n) (h : IsPer n a d) : ∀ (q x : Nat), x + q * d < n → a.testBit (x + q * d) = a.testBit x := by
  obtain ⟨h1, h2, h3, h4⟩ := h
  intro q
  induction q with
  | zero => intro x _; rw [Nat.zero_mul, Nat.add_zero]
  | succ q ih =>
    intro x hx
    rw [Nat.succ_mul] at hx
    rw [← ih x (by omega)]
    rcases Nat.lt_or_ge d n with c | c
    · have h5 := testBit_moveN (i := x + (q + 1) * d) ha c (by rw [Nat.succ_mul]; omega)
      rw [h4] at h5
      rw [h5]
      congr 1
      rw [Nat.succ_mul, show x + (q * d + d) + (n - d) = x + q * d + n by omega, Nat.add_mod_right, Nat.mod_eq_of_lt (by omega)]
    · omega
/-- the beats of one period, gathered -/
def foldTo (a d : Nat) : Nat → Nat
  | 0 => 0
  | x + 1 => if a.testBit x then foldTo a d x ||| 2 ^ (x % d) else foldTo a d x
theorem foldTo_bit {n a d : Nat} (ha : a < 2 ^ n) (h : IsPer n a d) (i : Nat) : ∀ x, x ≤ n → (foldTo a d x).testBit i = (decide (i < d) && (decide (i < x) && a.testBit i)) := by
  have h1 := h.1
  intro x
  induction x with
  | zero => intro _; simp [foldTo]
  | succ x ih =>
    intro hx
    have hi := ih (by omega)
    have hp := per_bit ha h (x / d) (x % d) (by rw [Nat.mul_comm, Nat.mod_add_div]; omega)
    rw [Nat.mul_comm, Nat.mod_add_div] at hp
    have hmd := Nat.mod_lt x (show d > 0 by omega)
    have hml := Nat.mod_le x d
    simp only [foldTo]
    cases hb : a.testBit x with
    | true =>
      rw [if_pos rfl, Nat.testBit_or, hi, Nat.testBit_two_pow]
      rw [hb] at hp
      by_cases e : x % d = i
      · subst e
        rw [← hp]
        simp only [decide_true, Bool.or_true, Bool.and_true]
        rw [decide_eq_true hmd, decide_eq_true (show x % d < x + 1 by omega)]
        rfl
      · rw [decide_eq_false e, Bool.or_false]
        by_cases hid : i < d
        · rw [decide_eq_true hid, Bool.true_and, Bool.true_and]
          have : decide (i < x) = decide (i < x + 1) := by
            rw [decide_eq_decide]
            have : i ≠ x := fun h => e (by rw [← h, Nat.mod_eq_of_lt hid])
            omega
          rw [this]
        · rw [decide_eq_false hid, Bool.false_and, Bool.false_and]
    | false =>
      rw [if_neg (by simp), hi]
      by_cases e : i = x
      · subst e; rw [hb]; simp
      · have : decide (i < x) = decide (i < x + 1) := by rw [decide_eq_decide]; omega
        rw [this]
theorem foldTo_all {n a d : Nat} (ha : a < 2 ^ n) (h : IsPer n a d) : foldTo a d n = a &&& (2 ^ d - 1) := by
  refine Nat.eq_of_testBit_eq (fun i => ?_)
  rw [foldTo_bit ha h i n (Nat.le_refl _), Nat.testBit_and, Nat.testBit_two_pow_sub_one]
  by_cases hi : i < d
  · have := h.2.1
    rw [decide_eq_true hi, decide_eq_true (show i < n by omega)]; simp
  · rw [decide_eq_false hi]; simp
theorem foldTo_lt {n a d : Nat} (hd : 1 ≤ d) (hdn : d ≤ n) : ∀ x, foldTo a d x < 2 ^ n
  | 0 => Nat.two_pow_pos n
  | x + 1 => by
    have h := foldTo_lt (n := n) (a := a) hd hdn x
    simp only [foldTo]
    split
    · exact Nat.or_lt_two_pow h (Nat.pow_lt_pow_right (by omega) (Nat.lt_of_lt_of_le (Nat.mod_lt x (by omega)) hdn))
    · exact h
end Go.Proofs.YtkidgakjeahebaaDoor.P
namespace Go.Proofs.YtkidgakjeahebaaDoor.P
/-! Of two rhythms that fill a circle of at most 24 beats one has a period: one of them has at most four beats; all such are looked through. Plain Lean. -/
/-- the search for partners, over the beats of a, with a test at each end -/
def visOk (n a full : Nat) (al : List Nat) (ok : Nat → Bool) : Nat → Nat → Nat → Bool
  | 0, _, _ => true
  | d + 1, b, F => bif Nat.beq F full then ok b else
      let f := freeAt n F
      al.all fun x =>
        let k := (f + (n - x)) % n
        let m := moveN n a k
        bif Nat.beq (m &&& F) 0 then visOk n a full al ok d (b ||| 2 ^ k) (F ||| m) else true
theorem visOk_spec {n a : Nat} {al : List Nat} {ok : Nat → Bool} (hal : ∀ x, x < n → a.testBit x = true → x ∈ al) : ∀ (d b F : Nat), visOk n a (2 ^ n - 1) al ok d b F = true → ∀ c ∈ vis n a (stA n a) d b F, ok c = true
  | 0, b, F, _, c, hc => by simp [vis] at hc
  | d + 1, b, F, h, c, hc => by
    simp only [vis] at hc
    simp only [visOk] at h
    by_cases e : F = 2 ^ n - 1
    · rw [if_pos e, List.mem_singleton] at hc
      rw [show Nat.beq F (2 ^ n - 1) = true from Nat.beq_eq.mpr e, cond_true] at h
      rw [hc]; exact h
    · rw [if_neg e, List.mem_flatMap] at hc
      rw [show Nat.beq F (2 ^ n - 1) = false from by rw [Bool.eq_false_iff]; exact fun h => e (Nat.eq_of_beq_eq_true h), cond_false, List.all_eq_true] at h
      obtain ⟨x, hx, hc⟩ := hc
      rw [List.mem_range] at hx
      unfold stA at hc
      cases hb : a.testBit x with
      | false => rw [hb] at hc; simp at hc
      | true =>
        rw [hb] at hc
        simp only [if_true] at hc
        have h2 := h x (hal x hx hb)
        by_cases hm : moveN n a ((freeAt n F + (n - x)) % n) &&& F = 0
        · rw [if_pos hm] at hc
          rw [show Nat.beq (moveN n a ((freeAt n F + (n - x)) % n) &&& F) 0 = true from Nat.beq_eq.mpr hm, cond_true] at h2
          exact visOk_spec hal d _ _ h2 c hc
        · rw [if_neg hm] at hc; cases hc
/-- has a period below the circle -/
def perB (n a : Nat) : Bool := (List.range n).any fun d => decide (1 ≤ d) && (decide (n % d = 0) && Nat.beq (moveN n a d) a)
theorem perB_iff {n a : Nat} : perB n a = true ↔ ∃ d, d < n ∧ IsPer n a d := by
  unfold perB IsPer
  rw [List.any_eq_true]
  constructor
  · rintro ⟨d, hd, h⟩
    rw [List.mem_range] at hd
    simp only [Bool.and_eq_true, decide_eq_true_iff] at h
    exact ⟨d, hd, h.1, by omega, h.2.1, Nat.eq_of_beq_eq_true h.2.2⟩
  · rintro ⟨d, hd, h1, _, h2, h3⟩
    refine ⟨d, List.mem_range.2 hd, ?_⟩
    simp only [Bool.and_eq_true, decide_eq_true_iff]
    exact ⟨h1, h2, Nat.beq_eq.mpr h3⟩
def setOf (al : List Nat) : Nat := al.foldl (fun s x => s ||| 2 ^ x) 0
def chkA (n : Nat) (al : List Nat) : Bool :=
  let a := setOf al
  perB n a || visOk n a (2 ^ n - 1) al (perB n) (n + 1) 1 a
/-- all rising lists of k numbers from lo to n - 1 behind some -/
def chkR (n : Nat) : Nat → Nat → List Nat → Bool
  | 0, _, al => chkA n al
  | k + 1, lo, al => (List.range (n - lo)).all fun i => chkR n k (lo + i + 1) (al ++ [lo + i])
def chkN (n : Nat) : Bool := [1, 2, 3, 4].all fun s => decide (n % s ≠ 0) || chkR n (s - 1) 1 [0]
theorem chkR_spec {n : Nat} : ∀ (k lo : Nat) (al l : List Nat), chkR n k lo al = true → l.length = k → l.Pairwise (· < ·) → (∀ x ∈ l, lo ≤ x ∧ x < n) → chkA n (al ++ l) = true
  | 0, lo, al, l, h, hl, _, _ => by
    rw [List.length_eq_zero_iff] at hl
    subst hl
    rw [List.append_nil]; exact h
  | k + 1, lo, al, x :: l, h, hl, hp, hr => by
    simp only [chkR, List.all_eq_true, List.mem_range] at h
    have hx := hr x (by simp)
    have h2 := h (x - lo) (by omega)
    rw [show lo + (x - lo) = x by omega] at h2
    rw [List.pairwise_cons] at hp
    have := chkR_spec k (x + 1) (al ++ [x]) l h2 (by simpa using hl) hp.2 (fun y hy => ⟨hp.1 y hy, (hr y (by simp [hy])).2⟩)
    rwa [List.append_assoc] at this
  | k + 1, _, _, [], _, hl, _, _ => by simp at hl
set_option maxHeartbeats 20000000 in
theorem chk_2 : chkN 2 = true := by kernel_rfl
set_option maxHeartbeats 20000000 in
theorem chk_3 : chkN 3 = true := by kernel_rfl
set_option maxHeartbeats 20000000 in
theorem chk_4 : chkN 4 = true := by kernel_rfl
set_option maxHeartbeats 20000000 in
theorem chk_5 : chkN 5 = true := by kernel_rfl
set_option maxHeartbeats 20000000 in
theorem chk_6 : chkN 6 = true := by kernel_rfl
set_option maxHeartbeats 20000000 in
theorem chk_7 : chkN 7 = true := by kernel_rfl
set_option maxHeartbeats 20000000 in
theorem chk_8 : chkN 8 = true := by kernel_rfl
set_option maxHeartbeats 20000000 in
theorem chk_9 : chkN 9 = true := by kernel_rfl
set_option maxHeartbeats 20000000 in
theorem chk_10 : chkN 10 = true := by kernel_rfl
set_option maxHeartbeats 20000000 in
theorem chk_11 : chkN 11 = true := by kernel_rfl
set_option maxHeartbeats 20000000 in
theorem chk_12 : chkN 12 = true := by kernel_rfl
set_option maxHeartbeats 20000000 in
theorem chk_13 : chkN 13 = true := by kernel_rfl
set_option maxHeartbeats 20000000 in
theorem chk_14 : chkN 14 = true := by kernel_rfl
set_option maxHeartbeats 20000000 in
theorem chk_15 : chkN 15 = true := by kernel_rfl
set_option maxHeartbeats 20000000 in
theorem chk_16 : chkN 16 = true := by kernel_rfl
set_option maxHeartbeats 20000000 in
theorem chk_17 : chkN 17 = true := by kernel_rfl
set_option maxHeartbeats 20000000 in
theorem chk_18 : chkN 18 = true := by kernel_rfl
set_option maxHeartbeats 20000000 in
theorem chk_19 : chkN 19 = true := by kernel_rfl
set_option maxHeartbeats 20000000 in
theorem chk_20 : chkN 20 = true := by kernel_rfl
set_option maxHeartbeats 20000000 in
theorem chk_21 : chkN 21 = true := by kernel_rfl
set_option maxHeartbeats 20000000 in
theorem chk_22 : chkN 22 = true := by kernel_rfl
set_option maxHeartbeats 20000000 in
theorem chk_23 : chkN 23 = true := by kernel_rfl
set_option maxHeartbeats 20000000 in
theorem chk24_1 : chkR 24 2 2 [0, 1] = true := by kernel_rfl
set_option maxHeartbeats 20000000 in
theorem chk24_2 : chkR 24 2 3 [0, 2] = true := by kernel_rfl
set_option maxHeartbeats 20000000 in
theorem chk24_3 : chkR 24 2 4 [0, 3] = true := by kernel_rfl
set_option maxHeartbeats 20000000 in
theorem chk24_4 : chkR 24 2 5 [0, 4] = true := by kernel_rfl
set_option maxHeartbeats 20000000 in
theorem chk24_5 : chkR 24 2 6 [0, 5] = true := by kernel_rfl
set_option maxHeartbeats 20000000 in
theorem chk24_6 : chkR 24 2 7 [0, 6] = true := by kernel_rfl
set_option maxHeartbeats 20000000 in
theorem chk24_7 : chkR 24 2 8 [0, 7] = true := by kernel_rfl
set_option maxHeartbeats 20000000 in
theorem chk24_8 : chkR 24 2 9 [0, 8] = true := by kernel_rfl
set_option maxHeartbeats 20000000 in
theorem chk24_9 : chkR 24 2 10 [0, 9] = true := by kernel_rfl
set_option maxHeartbeats 20000000 in
theorem chk24_10 : chkR 24 2 11 [0, 10] = true := by kernel_rfl
set_option maxHeartbeats 20000000 in
theorem chk24_11 : chkR 24 2 12 [0, 11] = true := by kernel_rfl
set_option maxHeartbeats 20000000 in
theorem chk24_12 : chkR 24 2 13 [0, 12] = true := by kernel_rfl
set_option maxHeartbeats 20000000 in
theorem chk24_13 : chkR 24 2 14 [0, 13] = true := by kernel_rfl
set_option maxHeartbeats 20000000 in
theorem chk24_14 : chkR 24 2 15 [0, 14] = true := by kernel_rfl
set_option maxHeartbeats 20000000 in
theorem chk24_15 : chkR 24 2 16 [0, 15] = true := by kernel_rfl
set_option maxHeartbeats 20000000 in
theorem chk24_16 : chkR 24 2 17 [0, 16] = true := by kernel_rfl
set_option maxHeartbeats 20000000 in
theorem chk24_17 : chkR 24 2 18 [0, 17] = true := by kernel_rfl
set_option maxHeartbeats 20000000 in
theorem chk24_18 : chkR 24 2 19 [0, 18] = true := by kernel_rfl
set_option maxHeartbeats 20000000 in
theorem chk24_19 : chkR 24 2 20 [0, 19] = true := by kernel_rfl
set_option maxHeartbeats 20000000 in
theorem chk24_20 : chkR 24 2 21 [0, 20] = true := by kernel_rfl
set_option maxHeartbeats 20000000 in
theorem chk24_21 : chkR 24 2 22 [0, 21] = true := by kernel_rfl
set_option maxHeartbeats 20000000 in
theorem chk24_22 : chkR 24 2 23 [0, 22] = true := by kernel_rfl
set_option maxHeartbeats 20000000 in
theorem chk24_23 : chkR 24 2 24 [0, 23] = true := by kernel_rfl
set_option maxHeartbeats 20000000 in
theorem chk24_s : ([1, 2, 3].all fun s => decide (24 % s ≠ 0) || chkR 24 (s - 1) 1 [0]) = true := by kernel_rfl
theorem chk24_all : chkR 24 3 1 [0] = true := by
  have h : chkR 24 3 1 [0] = (List.range 23).all fun i => chkR 24 2 (1 + i + 1) ([0] ++ [1 + i]) := rfl
  rw [h, List.all_eq_true]
  intro i hi
  rw [List.mem_range] at hi
  match i, hi with
  | 0, _ => exact chk24_1
  | 1, _ => exact chk24_2
  | 2, _ => exact chk24_3
  | 3, _ => exact chk24_4
  | 4, _ => exact chk24_5
  | 5, _ => exact chk24_6
  | 6, _ => exact chk24_7
  | 7, _ => exact chk24_8
  | 8, _ => exact chk24_9
  | 9, _ => exact chk24_10
  | 10, _ => exact chk24_11
  | 11, _ => exact chk24_12
  | 12, _ => exact chk24_13
  | 13, _ => exact chk24_14
  | 14, _ => exact chk24_15
  | 15, _ => exact chk24_16
  | 16, _ => exact chk24_17
  | 17, _ => exact chk24_18
  | 18, _ => exact chk24_19
  | 19, _ => exact chk24_20
  | 20, _ => exact chk24_21
  | 21, _ => exact chk24_22
  | 22, _ => exact chk24_23
  | i + 23, h => exact absurd h (by omega)
theorem chk_24 : chkN 24 = true := by
  have h := chk24_s
  have h4 := chk24_all
  rw [List.all_eq_true] at h
  unfold chkN
  rw [List.all_eq_true]
  intro s hs
  by_cases e : s = 4
  · subst e
    rw [show 4 - 1 = 3 from rfl, h4, Bool.or_true]
  · exact h s (by simp at hs ⊢; omega)
theorem chk_all (n : Nat) (h : n < 25) (h2 : 2 ≤ n) : chkN n = true := by
  match n, h, h2 with
  | 2, _, _ => exact chk_2
  | 3, _, _ => exact chk_3
  | 4, _, _ => exact chk_4
  | 5, _, _ => exact chk_5
  | 6, _, _ => exact chk_6
  | 7, _, _ => exact chk_7
  | 8, _, _ => exact chk_8
  | 9, _, _ => exact chk_9
  | 10, _, _ => exact chk_10
  | 11, _, _ => exact chk_11
  | 12, _, _ => exact chk_12
  | 13, _, _ => exact chk_13
  | 14, _, _ => exact chk_14
  | 15, _, _ => exact chk_15
  | 16, _, _ => exact chk_16
  | 17, _, _ => exact chk_17
  | 18, _, _ => exact chk_18
  | 19, _, _ => exact chk_19
  | 20, _, _ => exact chk_20
  | 21, _, _ => exact chk_21
  | 22, _, _ => exact chk_22
  | 23, _, _ => exact chk_23
  | 24, _, _ => exact chk_24
  | 0, _, h => exact absurd h (by omega)
  | 1, _, h => exact absurd h (by omega)
  | n + 25, h, _ => exact absurd h (by omega)
theorem tiled_symm {n a b : Nat} (ha : a < 2 ^ n) (hb : b < 2 ^ n) (h : Tiled n a b) : Tiled n b a := by
  intro x hx
  have h1 := h x hx
  rw [← h1]
  unfold cv
  have hf : ∀ i, i < n → (x + (n - i)) % n < n := fun i hi => Nat.mod_lt _ (by omega)
  have hff : ∀ i, i < n → (x + (n - (x + (n - i)) % n)) % n = i := fun i hi => sub_mod_two hx hi
  rw [← cnt_perm (f := fun i => (x + (n - i)) % n) hf (fun i hi j hj e => by rw [← hff i hi, ← hff j hj]; exact congrArg (fun z => (x + (n - z)) % n) e) (fun y => b.testBit y && (moveN n a y).testBit x)]
  refine cnt_congr (fun y hy => ?_)
  rw [testBit_moveN hb hy hx, testBit_moveN ha (hf y hy) hx, hff y hy, Bool.and_comm]
theorem foldl_set (l : List Nat) : ∀ s, l.foldl (fun s x => s ||| 2 ^ x) s = orAll s l := fun _ => rfl
theorem setOf_filter {n a : Nat} (ha : a < 2 ^ n) : setOf ((List.range n).filter a.testBit) = a := by
  show orAll 0 _ = a
  refine bits_ext (orAll_lt _ (fun x hx => List.mem_range.1 (List.mem_filter.1 hx).1) 0 (Nat.two_pow_pos n)) ha (fun i hi => ?_)
  rw [testBit_orAll, Nat.zero_testBit, Bool.false_or, Bool.eq_iff_iff, decide_eq_true_iff, List.mem_filter, List.mem_range]
  exact ⟨fun h => h.2, fun h => ⟨hi, h⟩⟩
theorem small_side {n a b : Nat} (hn : 2 ≤ n) (hn2 : n ≤ 24) (ha : a < 2 ^ n) (hb : b < 2 ^ n) (a0 : a.testBit 0 = true) (b0 : b.testBit 0 = true) (h : Tiled n a b) (hs : chSize n a ≤ 4) : perB n a = true ∨ perB n b = true := by
  obtain ⟨al, hal⟩ : ∃ al, al = (List.range n).filter a.testBit := ⟨_, rfl⟩
  have hset : setOf al = a := by rw [hal]; exact setOf_filter ha
  have hlen : al.length = chSize n a := by rw [hal, chSize_cnt, cnt_eq, List.countP_eq_length_filter]
  have hp : al.Pairwise (· < ·) := by rw [hal]; exact List.Pairwise.filter _ List.pairwise_lt_range
  have hm : ∀ x, x ∈ al ↔ x < n ∧ a.testBit x = true := fun x => by rw [hal, List.mem_filter, List.mem_range]
  have hsz := tiled_size ha h
  obtain ⟨y, l, e⟩ : ∃ y l, al = y :: l := by
    cases al with
    | nil => exact absurd ((hm 0).2 ⟨by omega, a0⟩) (by simp)
    | cons y l => exact ⟨y, l, rfl⟩
  rw [e, List.pairwise_cons] at hp
  have hy : y = 0 := by
    have := (hm 0).2 ⟨by omega, a0⟩
    rw [e] at this
    rcases List.mem_cons.1 this with h | h
    · exact h.symm
    · have := hp.1 0 h; omega
  subst hy
  have hc := chk_all n (by omega) hn
  unfold chkN at hc
  rw [List.all_eq_true] at hc
  have hl : l.length + 1 = chSize n a := by rw [← hlen, e]; rfl
  have hmem : chSize n a ∈ [1, 2, 3, 4] := by
    have : chSize n a = 1 ∨ chSize n a = 2 ∨ chSize n a = 3 ∨ chSize n a = 4 := by omega
    simp [this]
  have h1 := hc _ hmem
  have hdiv : n % chSize n a = 0 := Nat.mod_eq_zero_of_dvd ⟨chSize n b, hsz.symm⟩
  rw [decide_eq_false (by simp [hdiv]), Bool.false_or] at h1
  have h2 := chkR_spec (chSize n a - 1) 1 [0] l h1 (by omega) hp.2 (fun x hx => ⟨hp.1 x hx, ((hm x).1 (by rw [e]; simp [hx])).1⟩)
  rw [show [0] ++ l = al by rw [e]; rfl] at h2
  unfold chkA at h2
  simp only [hset, Bool.or_eq_true] at h2
  rcases h2 with h2 | h2
  · exact .inl h2
  · right
    refine visOk_spec (fun x hx hb => (hm x).2 ⟨hx, hb⟩) _ _ _ h2 b ?_
    exact ((partners_spec (by omega) ha a0 (stepOk_A ha)).2 b).2 ⟨hb, h, b0⟩
/-- **of two rhythms that fill the circle one has a period below it** -/
theorem hajos {n a b : Nat} (hn : 2 ≤ n) (hn2 : n ≤ 24) (ha : a < 2 ^ n) (hb : b < 2 ^ n) (a0 : a.testBit 0 = true) (b0 : b.testBit 0 = true) (h : Tiled n a b) : perB n a = true ∨ perB n b = true := by
  have hsz := tiled_size ha h
  by_cases hs : chSize n a ≤ 4
  · exact small_side hn hn2 ha hb a0 b0 h hs
  · have h4 : chSize n b ≤ 4 := by
      rcases Nat.lt_or_ge 4 (chSize n b) with h5 | h5
      · have := Nat.mul_le_mul (show 5 ≤ chSize n a by omega) (show 5 ≤ chSize n b by omega)
        omega
      · exact h5
    exact (small_side hn hn2 hb ha b0 a0 (tiled_symm ha hb h) h4).symm
end Go.Proofs.YtkidgakjeahebaaDoor.P
namespace Go.Proofs.YtkidgakjeahebaaDoor.P
open Go.RowKit Go.Proofs.YtkidgakjeahebaaDoorW.PrintWords Go.Proofs.YtkidgakjeahebaaDoorW.PrintLast Go.Proofs.YtkidgakjeahebaaDoorW.PrintMore
attribute [local go_sem] max2_int min2_int max_two min_two max_three min_three max_four min_four   -- for this text's walks alone
set_option linter.unusedVariables false
set_option linter.unusedSimpArgs false

/-! ### canon_circle_isPeriod: function 29 -/
def canon_circle_isPeriod.f (a0 : Int) (a1 : Int) (a2 : Int) : Option (Bool) := if a2 ≥ 1 then (if a2 = 0 then (none) else (if (Int.tmod a0 a2) = 0 then ((canon_circle_move.f a0 a1 a2).bind fun t1001 => (some (t1001 == a1))) else (some false))) else (some false)
set_option maxHeartbeats 8000000 in
set_option maxRecDepth 100000 in
theorem canon_circle_isPeriod.calls (a0 : Int) (a1 : Int) (a2 : Int) (r : Bool) (w : World) (h : canon_circle_isPeriod.f a0 a1 a2 = some r) :
    Calls Tryd.prog 29 #[.int .i64 a0, .int .i64 a1, .int .i64 a2] w fun e w' => e = .returned (.bool r) ∧ Drawn0 w w' := by
  have H : (if a2 ≥ 1 then (if a2 = 0 then (none) else (if (Int.tmod a0 a2) = 0 then ((canon_circle_move.f a0 a1 a2).bind fun t1001 => (some (t1001 == a1))) else (some false))) else (some false)) = some r := h
  clear h
  by_cases c4 : a2 ≥ 1
  · rw [if_pos c4] at H
    have c4b0 : decide (1 ≤ a2) = true := decide_eq_true c4
    clear c4
    by_cases c5 : a2 = 0
    · rw [if_pos c5] at H
      exact absurd H (by simp)
    · rw [if_neg c5] at H
      have c5b0 : (a2 == 0) = false := beq_eq_false_iff_ne.mpr c5
      have c5b1 : (a2 != 0) = true := bne_iff_ne.mpr c5
      by_cases c6 : (Int.tmod a0 a2) = 0
      · rw [if_pos c6] at H
        have c6b0 : ((Int.tmod a0 a2) == 0) = true := beq_iff_eq.mpr c6
        have c6b1 : ((Int.tmod a0 a2) != 0) = false := bne_eq_false_iff_eq.mpr c6
        clear c6
        replace H := Option.bind_eq_some_iff.mp H
        obtain ⟨t1001, A70, H⟩ := H
        replace H : (some (t1001 == a1)) = some r := H
        have A7 := Aside0.mk A70
        clear A70
        obtain rfl := Option.some.inj H
        go_enter Tryd.func29, Tryd.ntmps29
        go_wp2_with (first | (go_at_call 42; (with_reducible refine (canon_circle_move.calls a0 a1 a2 t1001 _ A7.out).mono ?_); rintro e w' ⟨rfl, ⟨nd, rfl⟩⟩))
        go_ret
        exact ⟨by first | rfl | (simp; done) | (simp [*]; done), by repeat (first | exact Drawn0.refl _ | apply Drawn0.step)⟩
      · rw [if_neg c6] at H
        have c6b0 : ((Int.tmod a0 a2) == 0) = false := beq_eq_false_iff_ne.mpr c6
        have c6b1 : ((Int.tmod a0 a2) != 0) = true := bne_iff_ne.mpr c6
        obtain rfl := Option.some.inj H
        go_enter Tryd.func29, Tryd.ntmps29
        go_wp2
        go_ret
        exact ⟨by first | rfl | (simp; done) | (simp [*]; done), by repeat (first | exact Drawn0.refl _ | apply Drawn0.step)⟩
  · rw [if_neg c4] at H
    have c4b0 : decide (1 ≤ a2) = false := decide_eq_false c4
    clear c4
    obtain rfl := Option.some.inj H
    go_enter Tryd.func29, Tryd.ntmps29
    go_wp2
    go_ret
    exact ⟨by first | rfl | (simp; done) | (simp [*]; done), by repeat (first | exact Drawn0.refl _ | apply Drawn0.step)⟩

end Go.Proofs.YtkidgakjeahebaaDoor.P
namespace Go.Proofs.YtkidgakjeahebaaDoor.P
open Go.RowKit Go.Proofs.YtkidgakjeahebaaDoorW.PrintWords Go.Proofs.YtkidgakjeahebaaDoorW.PrintLast Go.Proofs.YtkidgakjeahebaaDoorW.PrintMore
attribute [local go_sem] max2_int min2_int max_two min_two max_three min_three max_four min_four   -- for this text's walks alone
set_option linter.unusedVariables false
set_option linter.unusedSimpArgs false

/-! ### canon_circle_period: function 43 -/
def canon_circle_period.l0 : Nat → Int → Int → Int → Option (Int)
  | 0, _, _, _ => none
  | k + 1, x0, x1, x5 => (canon_circle_isPeriod.f x0 x1 x5).bind fun t1001 => (if t1001 = true then (some x5) else (canon_circle_period.l0 k x0 x1 (wrap64 (x5 + 1))))
def canon_circle_period.f (k : Nat) (a0 : Int) (a1 : Int) : Option (Int) := canon_circle_period.l0 k a0 a1 1
theorem canon_circle_period.mono_l : ∀ k, (∀ y0 y1 y2, LeO (canon_circle_period.l0 k y0 y1 y2) (canon_circle_period.l0 (k + 1) y0 y1 y2))
  | 0 => fun _ _ _ r h => by simp [canon_circle_period.l0] at h
  | k + 1 => by
    have ih0 := canon_circle_period.mono_l k
    · intro y0 y1 y2
      unfold canon_circle_period.l0
      repeat' first
      | (with_reducible exact ih0 _ _ _)
      | (with_reducible exact LeO.refl _)
      | (with_reducible exact LeO.none _)
      | (with_reducible refine LeO.ite ?_ ?_)
      | (with_reducible refine LeO.bind ?_ (fun _ => ?_))
      | exact ih0 _ _ _
      | exact LeO.none _
      | refine LeO.ite ?_ ?_
      | refine LeO.bind ?_ (fun _ => ?_)
theorem canon_circle_period.mono : ∀ a0 a1 k, LeO (canon_circle_period.f k a0 a1) (canon_circle_period.f (k + 1) a0 a1) := by
  intro a0 a1 k
  have ih0 := canon_circle_period.mono_l k
  unfold canon_circle_period.f
  repeat' first
      | (with_reducible exact ih0 _ _ _)
      | (with_reducible exact LeO.refl _)
      | (with_reducible exact LeO.none _)
      | (with_reducible refine LeO.ite ?_ ?_)
      | (with_reducible refine LeO.bind ?_ (fun _ => ?_))
      | exact ih0 _ _ _
      | exact LeO.none _
      | refine LeO.ite ?_ ?_
      | refine LeO.bind ?_ (fun _ => ?_)
set_option maxHeartbeats 8000000 in
set_option maxRecDepth 100000 in
theorem canon_circle_period.calls (k : Nat) (a0 : Int) (a1 : Int) (r : Int) (w : World) (h : canon_circle_period.f k a0 a1 = some r) :
    Calls Tryd.prog 43 #[.int .i64 a0, .int .i64 a1] w fun e w' => e = .returned (.int .i64 r) ∧ Drawn0 w w' := by
  have H : (canon_circle_period.l0 k a0 a1 1) = some r := h
  clear h
  have H' := Aside0.mk H
  clear H
  go_enter Tryd.func43, Tryd.ntmps43
  go_wp2
  go_loopg [5] k (fun kq v5 w' => ∃ (x5_1 : Int), v5 = .int .i64 x5_1 ∧ Aside0 (canon_circle_period.l0 kq a0 a1 x5_1 = some r) ∧ Aside0 (kq ≤ k) ∧ Drawn0 w w')
  case atStart => exact ⟨(1), (by first | rfl | (simp; done) | (simp [*]; done)), H', ⟨Nat.le_refl _⟩, by repeat (first | exact Drawn0.refl _ | apply Drawn0.step)⟩
  case round =>
    clear H'
    try clear p2
    obtain ⟨x5_1, rfl, HA, HK1, ⟨m1, rfl⟩⟩ := hrel
    cases gk with
    | zero => exact absurd HA.out (by simp [canon_circle_period.l0])
    | succ k1 =>
      have H := HA.out
      clear HA
      simp only [canon_circle_period.l0] at H
      replace H := Option.bind_eq_some_iff.mp H
      obtain ⟨t1001, A30, H⟩ := H
      replace H : (if t1001 = true then (some x5_1) else (canon_circle_period.l0 k1 a0 a1 (wrap64 (x5_1 + 1)))) = some r := H
      have A3 := Aside0.mk A30
      clear A30
      by_cases c4 : t1001 = true
      · subst c4
        have H1 : (some x5_1) = some r := by rw [if_pos rfl] at H; exact H
        clear H
        have H := H1
        clear H1
        obtain rfl := Option.some.inj H
        go_wp2_with (first | ((with_reducible refine gate_callee (f := 29) rfl ?_); refine goesL_ (some 9) rfl rfl Tryd.func29 (by kernel_rfl) rfl #[.int .i64 a0, .int .i64 a1, .int .i64 x5_1] rfl (by (try simp only [List.map_toArray, List.map_cons, List.map_nil]); first | done | rfl | (simp only [List.length_drop, List.length_take]; rfl)) ?_; (with_reducible refine (canon_circle_isPeriod.calls a0 a1 x5_1 true _ A3.out).mono ?_); rintro e w' ⟨rfl, ⟨nd, rfl⟩⟩; refine ⟨_, rfl, ?_⟩))
        go_ret
        exact ⟨by first | rfl | (simp; done) | (simp [*]; done), by repeat (first | exact Drawn0.refl _ | apply Drawn0.step)⟩
      · replace c4 := Bool.eq_false_iff.mpr c4
        subst c4
        have H1 : (canon_circle_period.l0 k1 a0 a1 (wrap64 (x5_1 + 1))) = some r := by rw [if_neg (show ¬ (false = true) by decide)] at H; exact H
        clear H
        have H := H1
        clear H1
        have H' := Aside0.mk H
        clear H
        go_wp2_with (first | ((with_reducible refine gate_callee (f := 29) rfl ?_); refine goesL_ (some 9) rfl rfl Tryd.func29 (by kernel_rfl) rfl #[.int .i64 a0, .int .i64 a1, .int .i64 x5_1] rfl (by (try simp only [List.map_toArray, List.map_cons, List.map_nil]); first | done | rfl | (simp only [List.length_drop, List.length_take]; rfl)) ?_; (with_reducible refine (canon_circle_isPeriod.calls a0 a1 x5_1 false _ A3.out).mono ?_); rintro e w' ⟨rfl, ⟨nd, rfl⟩⟩; refine ⟨_, rfl, ?_⟩))
        go_roundg k1
        case measure => have := HK1.out; omega
        case rel => exact ⟨(wrap64 (x5_1 + 1)), (by first | rfl | (simp; done) | (simp [*]; done)), H', ⟨by have := HK1.out; omega⟩, by repeat (first | exact Drawn0.refl _ | apply Drawn0.step)⟩

end Go.Proofs.YtkidgakjeahebaaDoor.P
namespace Go.Proofs.YtkidgakjeahebaaDoor.P
open Go.RowKit Go.Proofs.YtkidgakjeahebaaDoorW.PrintWords Go.Proofs.YtkidgakjeahebaaDoorW.PrintLast Go.Proofs.YtkidgakjeahebaaDoorW.PrintMore
attribute [local go_sem] max2_int min2_int max_two min_two max_three min_three max_four min_four   -- for this text's walks alone
set_option linter.unusedVariables false
set_option linter.unusedSimpArgs false

/-! the period of a rhythm, as the program looks for it -/
theorem isPer_mod {n d : Nat} : (Int.tmod (n : Int) (d : Int) = 0) ↔ n % d = 0 := by
  rw [Int.tmod_eq_emod_of_nonneg (by omega), ← Int.natCast_emod]; omega
theorem isPeriod_f {n a d : Nat} (hn : n ≤ 24) (hn1 : 1 ≤ n) (ha : a < 2 ^ n) (h1 : 1 ≤ d) : canon_circle_isPeriod.f (n : Int) (a : Int) (d : Int) = some (decide (IsPer n a d)) := by
  unfold canon_circle_isPeriod.f
  rw [if_pos (by omega), if_neg (by omega)]
  by_cases hm : n % d = 0
  · have hdn : d ≤ n := Nat.le_of_dvd (by omega) (Nat.dvd_of_mod_eq_zero hm)
    rw [if_pos (isPer_mod.2 hm), move_f hn hdn ha, Option.bind_some]
    congr 1
    rw [Bool.eq_iff_iff, beq_iff_eq, decide_eq_true_eq]
    unfold IsPer
    omega
  · rw [if_neg (fun h => hm (isPer_mod.1 h))]
    have : ¬ IsPer n a d := fun h => hm h.2.2.1
    rw [decide_eq_false this]
theorem period_ev {n a p : Nat} (hn : n ≤ 24) (hn1 : 1 ≤ n) (ha : a < 2 ^ n) (hp : IsPer n a p) (hl : ∀ d, d < p → ¬ IsPer n a d) : ∀ (m d : Nat), 1 ≤ d → d + m = p →
    Ev (fun k => canon_circle_period.l0 k (n : Int) (a : Int) (d : Int)) (p : Int) := by
  intro m
  have hpn := hp.2.1
  induction m with
  | zero =>
    intro d h1 hd
    have hdp : d = p := by omega
    subst hdp
    refine Ev.succ ?_
    simp only [canon_circle_period.l0]
    refine Ev.bind_some (isPeriod_f hn hn1 ha h1) ?_
    simp only [hp, decide_true, if_true]
    exact Ev.some _
  | succ m ih =>
    intro d h1 hd
    have go := ih (d + 1) (by omega) (by omega)
    have hw := next_w (d := d) (by omega)
    have hnot := hl d (by omega)
    refine Ev.succ ?_
    simp only [canon_circle_period.l0, hw]
    refine Ev.bind_some (isPeriod_f hn hn1 ha h1) ?_
    simp only [hnot, decide_false, Bool.false_eq_true, if_false]
    exact go
theorem period_val {n a : Nat} (hn1 : 1 ≤ n) (hn : n ≤ 24) (ha : a < 2 ^ n) : ∃ p : Nat, Ev (fun k => canon_circle_period.f k (n : Int) (a : Int)) (p : Int) ∧ 1 ≤ p ∧ p ≤ n ∧ (perB n a = true ↔ p < n) := by
  obtain ⟨p, hp, hl⟩ := least_per hn1 ha
  refine ⟨p, ?_, hp.1, hp.2.1, ?_⟩
  · unfold canon_circle_period.f
    exact period_ev hn hn1 ha hp hl (p - 1) 1 (Nat.le_refl _) (by have := hp.1; omega)
  · rw [perB_iff]
    constructor
    · rintro ⟨d, hd, h⟩
      have : ¬ d < p := fun h2 => hl d h2 h
      omega
    · intro h; exact ⟨p, h, hp⟩

end Go.Proofs.YtkidgakjeahebaaDoor.P
namespace Go.Proofs.YtkidgakjeahebaaDoor.P
open Go.RowKit Go.Proofs.YtkidgakjeahebaaDoorW.PrintWords Go.Proofs.YtkidgakjeahebaaDoorW.PrintLast Go.Proofs.YtkidgakjeahebaaDoorW.PrintMore
attribute [local go_sem] max2_int min2_int max_two min_two max_three min_three max_four min_four   -- for this text's walks alone
set_option linter.unusedVariables false
set_option linter.unusedSimpArgs false

/-! canon.Plain: nothing is ever found, since of two rhythms that fill the circle one has a period -/
set_option maxHeartbeats 2000000 in
theorem insert_none (cap : Nat) (p : Option Addr) (fv : Value) (w : World) :
    Calls Tryd.prog 80 #[.slice p 0 cap, .int .i64 0, .int .i64 0, fv] w fun e w' => e = .returned (.tuple #[]) ∧ w' = w := by
  go_enter Tryd.func80, Tryd.ntmps80
  go_wp2
  refine wp_loop_rounds 1 ?_
  rw [rounds_succ]
  go_wp2
  go_end0
  exact ⟨rfl, rfl⟩
set_option maxHeartbeats 4000000 in
set_option maxRecDepth 100000 in
theorem pdq_none (cap : Nat) (p : Option Addr) (lim : Int) (fv : Value) (w : World) :
    Calls Tryd.prog 66 #[.slice p 0 cap, .int .i64 0, .int .i64 0, .int .i64 lim, fv] w fun e w' => e = .returned (.tuple #[]) ∧ w' = w := by
  have hi := Aside0.mk (fun W => insert_none cap p fv W)
  go_enter Tryd.func66, Tryd.ntmps66
  go_wp2
  refine wp_loop_rounds 1 ?_
  rw [rounds_succ]
  go_wp2_with (go_at_call 80; refine (hi.out _).mono ?_; rintro e w' ⟨rfl, rfl⟩)
  (try simp only [Exit.inBlock, Exit.then]); refine bodyPost_ret (results_none rfl _ _ _) rfl ?_
  exact ⟨rfl, rfl⟩
set_option maxHeartbeats 4000000 in
set_option maxRecDepth 1000000 in
theorem len64_0 (w : World) : Calls Tryd.prog 89 #[.int .u64 0] w fun e w' => e = .returned (.int .i64 0) ∧ w' = w := by
  go_enter Tryd.func89, Tryd.ntmps89
  go_wp2
  go_ret
  exact ⟨by kernel_rfl, rfl⟩
theorem len_0 (w : World) : Calls Tryd.prog 67 #[.int .u64 0] w fun e w' => e = .returned (.int .i64 0) ∧ w' = w := by
  have hl := Aside0.mk (fun W => len64_0 W)
  go_enter Tryd.func67, Tryd.ntmps67
  go_wp2_with (go_at_call 89; refine (hl.out _).mono ?_; rintro e w' ⟨rfl, rfl⟩)
  go_ret
  exact ⟨rfl, rfl⟩
set_option maxHeartbeats 2000000 in
theorem sortf_none (cap : Nat) (p : Option Addr) (fv : Value) (w : World) :
    Calls Tryd.prog 47 #[.slice p 0 cap, fv] w fun e w' => e = .returned (.tuple #[]) ∧ w' = w := by
  have hp := Aside0.mk (fun lim W => pdq_none cap p lim fv W)
  have hl := Aside0.mk (fun W => len_0 W)
  go_enter Tryd.func47, Tryd.ntmps47
  go_wp2_with (first | (go_at_call 67; refine (hl.out _).mono ?_; rintro e w' ⟨rfl, rfl⟩) | (go_at_call 66; refine (hp.out _ _).mono ?_; rintro e w' ⟨rfl, rfl⟩))
  go_end0
  exact ⟨rfl, rfl⟩
/-- what the program takes for the period, in whatever world -/
theorem period_run {n a : Nat} (hn1 : 1 ≤ n) (hn : n ≤ 24) (ha : a < 2 ^ n) : ∃ p : Nat, 1 ≤ p ∧ p ≤ n ∧ (perB n a = true ↔ p < n) ∧ ∀ W : World, Calls Tryd.prog 43 #[.int .i64 (n : Int), .int .i64 (a : Int)] W fun e w' => e = .returned (.int .i64 (p : Int)) ∧ ∃ q, w' = W.drewN q := by
  obtain ⟨p, hp, h1, h2, h3⟩ := period_val hn1 hn ha
  obtain ⟨k, hk⟩ := Ev.rounds (g := fun k => canon_circle_period.f k (n : Int) (a : Int)) hp
  exact ⟨p, h1, h2, h3, fun W => (canon_circle_period.calls k (n : Int) (a : Int) (p : Int) W hk).mono (fun e w' h => ⟨h.1, by obtain ⟨q, hq⟩ := h.2; exact ⟨q, hq⟩⟩)⟩
/-- the boxes of Plain -/
structure PlBox (S X O B n a : Nat) (W : World) : Prop where
  cS : W.cell? ⟨S, 0, none⟩ = some (.int .i64 (n : Int))
  cX : W.cell? ⟨X, 0, none⟩ = some (.int .i64 (n : Int))
  cO : W.cell? ⟨O, 0, none⟩ = some (.slice none 0 0)
  cB : W.cell? ⟨B, 0, none⟩ = some (.int .i64 (a : Int))
theorem PlBox.drewN {S X O B n a : Nat} {W : World} (h : PlBox S X O B n a W) (q : Nat) : PlBox S X O B n a (W.drewN q) := ⟨h.cS, h.cX, h.cO, h.cB⟩
theorem PlBox.below {S X O B n a : Nat} {W W' : World} (h : PlBox S X O B n a W) {D : Nat} (hb : Below D W W') (h1 : S < D) (h2 : X < D) (h3 : O < D) (h4 : B < D) : PlBox S X O B n a W' :=
  ⟨(hb.cell (p := ⟨S, 0, none⟩) h1).trans h.cS, (hb.cell (p := ⟨X, 0, none⟩) h2).trans h.cX, (hb.cell (p := ⟨O, 0, none⟩) h3).trans h.cO, (hb.cell (p := ⟨B, 0, none⟩) h4).trans h.cB⟩
set_option maxHeartbeats 2000000 in
theorem plain1 {n a b S X O B : Nat} (hn1 : 1 ≤ n) (hn : n ≤ 24) (hb : b < 2 ^ n) (hper : perB n b = true) (W : World) (h : PlBox S X O B n a W) :
    Calls Tryd.prog 46 #[.int .i64 (b : Int), .pointer (some ⟨X, 0, none⟩), .pointer (some ⟨S, 0, none⟩), .pointer (some ⟨O, 0, none⟩), .pointer (some ⟨B, 0, none⟩)] W fun e w' => e = .returned (.bool true) ∧ ∃ q, w' = W.drewN q := by
  obtain ⟨p, h1, h2, h3, hrun⟩ := period_run hn1 hn hb
  have HR := Aside0.mk hrun
  have hne : ((p : Int) == (n : Int)) = false := beq_eq_false_iff_ne.2 (by have := h3.1 hper; omega)
  have cS := h.cS
  have cX := h.cX
  clear h hper h3 hrun
  go_enter Tryd.func46, Tryd.ntmps46
  go_wp2
  go_quiet ((go_at_call 43; exact Calls.quiet_of (HR.out _)))
  go_wp2
  go_ret
  exact ⟨rfl, _, rfl⟩
theorem PlBox.next {S X O B n a : Nat} {W : World} (h : PlBox S X O B n a W) (ha : a ≤ 100000) {z : Int} (hz : z = wrap64 ((a : Int) + 2)) : PlBox S X O W.heap.size n (a + 2) (W.alloc (.cells #[.int .i64 z] 3)) := by
  have e : z = ((a + 2 : Nat) : Int) := by rw [hz, wrap_id (by omega) (by omega)]; omega
  rw [e]
  exact ⟨old_cell _ h.cS, old_cell _ h.cX, old_cell _ h.cO, (new_cell W _ _).1⟩
theorem plain_parts {n a S X O B : Nat} (hn : 2 ≤ n) (hn2 : n ≤ 24) (ha : a < 2 ^ n) (a0 : a.testBit 0 = true) (hper : perB n a = false) (w : World) (hT : Tabs w) (h : PlBox S X O B n a w) (h1 : S < w.heap.size) (h2 : X < w.heap.size) (h3 : O < w.heap.size) (h4 : B < w.heap.size) :
    Calls Tryd.prog 30 #[.int .i64 (n : Int), .int .i64 (a : Int), .func (.func 46) #[] #[.pointer (some ⟨X, 0, none⟩), .pointer (some ⟨S, 0, none⟩), .pointer (some ⟨O, 0, none⟩), .pointer (some ⟨B, 0, none⟩)]] w fun e w' => (∃ v, e = .returned v) ∧ PlBox S X O B n a w' ∧ Below w.heap.size w w' := by
  refine (partners_calls w.heap.size n a 46 _ true (fun _ W => PlBox S X O B n a W ∧ Below w.heap.size w W) (enters_of Tryd.func46 (by kernel_rfl) rfl) hn hn2 ha a0 w hT rfl ?_ ?_ ?_).mono ?_
  · rintro s A q ⟨h5, h6⟩
    exact ⟨h5.drewN q, pw_below_drewN h6 q⟩
  · intro W hW
    exact ⟨h.below hW h1 h2 h3 h4, hW⟩
  · rintro pre b W ⟨h5, h6⟩ hb ⟨ht, hb0⟩
    have hpb : perB n b = true := (hajos hn hn2 ha hb a0 hb0 ht).resolve_left (by rw [hper]; decide)
    refine (plain1 (by omega) hn2 hb hpb W h5).mono ?_
    rintro e w' ⟨rfl, q, rfl⟩
    exact ⟨rfl, ⟨h5.drewN q, pw_below_drewN h6 q⟩, KeepB.drew _ _ _⟩
  · rintro e w' ⟨hv, h5, h6⟩
    exact ⟨hv, h5, h6⟩
def canon_Plain.f (a0 : Int) : Option (List S43 × Int) := if 2 ≤ a0 ∧ a0 ≤ 16 then some ([], 0) else some ([], 2)
theorem nil_C (W : World) : Kd.C (Kd.int .i64) W none ([] : List Int).length [] := (Kd.R_reads' (Kd.R_nil (Kd.int .i64) 3 W 0 (fun _ => True))).2.2
set_option maxHeartbeats 4000000 in
set_option maxRecDepth 100000 in
theorem canon_Plain.calls (a0 : Int) (r1 : List S43) (r2 : Int) (w : World) (hT : Tabs w) (h : canon_Plain.f a0 = some (r1, r2)) :
    Calls Tryd.prog 22 #[.int .i64 a0] w fun e w' => ∃ v0_ : Value, e = .returned (.tuple #[v0_, .int .i64 r2]) ∧ Kd.R k43 43 w' w.heap.size (fun _ => True) v0_ r1 ∧ Below w.heap.size w w' := by
  unfold canon_Plain.f at h
  have HV := Aside0.mk (fun (W : World) (b : Bool) (hb : decide (2 ≤ a0 ∧ a0 ≤ 24) = b) => canon_circle_valid.calls a0 none 0 [] b W (nil_C W) (Nat.le_refl 0) (by rw [valid0_f, hb]))
  have hmf : ∀ (fn : Fn) (first cap : Array Value) (w : World), (Instr.makeFunc fn first cap).run Tryd.prog w = .ok (.func fn first cap) w := fun _ _ _ _ => rfl
  by_cases hok : 2 ≤ a0 ∧ a0 ≤ 16
  · rw [if_pos hok] at h
    injection h with h
    injection h with h1 h2
    subst h1 h2
    obtain ⟨n, rfl⟩ : ∃ n : Nat, a0 = (n : Int) := ⟨a0.toNat, by omega⟩
    have HV2 := Aside0.mk (fun W => HV.out W true (decide_eq_true (by omega)))
    have HN := Aside0.mk (show 2 ≤ n ∧ n ≤ 16 by omega)
    have HT := Aside0.mk hT
    clear hT HV hok
    go_enter Tryd.func22, Tryd.ntmps22
    have hS1 : (w.alloc (.cells #[.int .i64 (n : Int)] 3)).heap.size = w.heap.size + 1 := by simp [World.size_alloc]
    have cS1 := (new_cell w (.int .i64 (n : Int)) 3).1
    have cX1 := (new_cell (w.alloc (.cells #[.int .i64 (n : Int)] 3)) (.int .i64 (n : Int)) 47).1
    rw [hS1] at cX1
    have cS2 := old_cell (.cells #[.int .i64 (n : Int)] 47) cS1
    have hb2 : Below w.heap.size w ((w.alloc (.cells #[.int .i64 (n : Int)] 3)).alloc (.cells #[.int .i64 (n : Int)] 47)) := below_alloc (below_alloc (Below.refl _ _) _) _
    have hS2 : ((w.alloc (.cells #[.int .i64 (n : Int)] 3)).alloc (.cells #[.int .i64 (n : Int)] 47)).heap.size = w.heap.size + 1 + 1 := by simp [World.size_alloc]
    have HH := Aside0.mk (And.intro cX1 (And.intro cS2 (And.intro hb2 hS2)))
    clear hS1 cS1 cX1 cS2 hb2 hS2
    obtain ⟨M, hM⟩ : ∃ M, M = 2 ^ n - 1 := ⟨_, rfl⟩
    have HALL := Aside0.mk (fun W => (canon_circle_all.calls (n : Int) (M : Int) W (by rw [all_f (by have := HN.out; omega), hM])).mono (fun e w' h => (show e = .returned (.int .i64 (M : Int)) ∧ ∃ q, w' = W.drewN q from ⟨h.1, by obtain ⟨q, hq⟩ := h.2; exact ⟨q, hq⟩⟩)))
    have HM := Aside0.mk hM
    clear hM
    go_wp2_with fail
    obtain ⟨Wq, hWq⟩ : ∃ Wq, Wq = ((w.alloc (.cells #[.int .i64 (n : Int)] 3)).alloc (.cells #[.int .i64 (n : Int)] 47)) := ⟨_, rfl⟩
    rw [← hWq] at HH ⊢
    clear hWq
    refine (HV2.out Wq).mono ?_
    rintro e w2 ⟨rfl, hb⟩
    obtain ⟨cX, cS, hbq, hsq⟩ := HH.out
    have cS := (hb.cell (p := ⟨w.heap.size, 0, none⟩) (by rw [hsq]; simp only; omega)).trans cS
    have cX := (hb.cell (p := ⟨w.heap.size + 1, 0, none⟩) (by rw [hsq]; simp only; omega)).trans cX
    have HB2 := Aside0.mk (below_step hbq hb)
    have HS2 := Aside0.mk (show w.heap.size + 1 < w2.heap.size from by have := hb.size; omega)
    have hn16 : ¬ (n : Int) > 16 := by have := HN.out; omega
    clear hb hbq hsq HH
    go_wp2
    have hs3 : (w2.alloc (.cells #[.slice none 0 0] 36)).heap.size = w2.heap.size + 1 := by simp [World.size_alloc]
    have n3 := new_cell w2 (.slice none 0 0) 36
    have n4 := new_cell (w2.alloc (.cells #[.slice none 0 0] 36)) (.int .i64 1) 3
    rw [hs3] at n4
    have HST := Aside0.mk (show PlBox w.heap.size (w.heap.size + 1) w2.heap.size (w2.heap.size + 1) n 1 ((w2.alloc (.cells #[.slice none 0 0] 36)).alloc (.cells #[.int .i64 1] 3)) from ⟨old_cell _ (old_cell _ cS), old_cell _ (old_cell _ cX), old_cell _ n3.1, n4.1⟩)
    have HFZ := Aside0.mk n4.2
    have HBW := Aside0.mk (show Below w.heap.size w ((w2.alloc (.cells #[.slice none 0 0] 36)).alloc (.cells #[.int .i64 1] 3)) from below_alloc (below_alloc HB2.out _) _)
    have HSZ := Aside0.mk (show w2.heap.size + 1 < ((w2.alloc (.cells #[.slice none 0 0] 36)).alloc (.cells #[.int .i64 1] 3)).heap.size from by simp [World.size_alloc])
    clear hs3 n3 n4 cS cX hn16
    go_loopg [6] (2 ^ (n - 1)) (fun gg s6 wr => ∃ B j a : Nat, s6 = .pointer (some ⟨B, 0, none⟩) ∧ Aside0 (j + gg = 2 ^ (n - 1) ∧ a = 2 * j + 1) ∧ Aside0 (PlBox w.heap.size (w.heap.size + 1) w2.heap.size B n a wr) ∧ Aside0 (w2.heap.size < B ∧ B < wr.heap.size) ∧ Aside0 (wr.frozen? ⟨B, 0, none⟩ = false) ∧ Aside0 (Below w.heap.size w wr))
    case atStart => exact ⟨_, 0, 1, rfl, ⟨⟨by omega, rfl⟩⟩, HST, ⟨⟨Nat.lt_succ_self _, HSZ.out⟩⟩, HFZ, HBW⟩
    case round =>
      clear HST HFZ HBW HSZ
      obtain ⟨B, j, a, rfl, HJ, HP, HLT, HF, HB⟩ := hrel
      have cS := HP.out.cS
      have cX := HP.out.cX
      have cB := HP.out.cB
      have h2n : 2 ^ n = 2 * 2 ^ (n - 1) := by rw [← Nat.pow_succ']; congr 1; have := HN.out; omega
      have hMN : M = 2 * 2 ^ (n - 1) - 1 := by rw [HM.out, h2n]
      have HA2 := Aside0.mk (show 2 ^ (n - 1) ≤ 32768 from (Nat.pow_le_pow_right (n := 2) (by omega) (show n - 1 ≤ 15 by have := HN.out; omega) : 2 ^ (n - 1) ≤ 2 ^ 15))
      by_cases hlt : j < 2 ^ (n - 1)
      · have hle : (a : Int) ≤ (M : Int) := by have := HJ.out; omega
        have HA := Aside0.mk (show a < 2 ^ n ∧ a % 2 = 1 from by have := HJ.out; omega)
        have hle2 : a ≤ M := by have := HJ.out; omega
        clear hMN h2n
        go_wp2
        go_quiet ((go_at_call 44; exact Calls.quiet_of (HALL.out _)))
        go_wp2
        clear cS cX cB
        generalize hwz : wr.drewN _ = wz
        have HP := Aside0.mk (show PlBox w.heap.size (w.heap.size + 1) w2.heap.size B n a wz from by rw [← hwz]; exact HP.out.drewN _)
        have HLT := Aside0.mk (show w2.heap.size < B ∧ B < wz.heap.size from by rw [← hwz]; exact HLT.out)
        have HF := Aside0.mk (show wz.frozen? ⟨B, 0, none⟩ = false from by rw [← hwz]; exact HF.out)
        have HB := Aside0.mk (show Below w.heap.size w wz from by rw [← hwz]; exact pw_below_drewN HB.out _)
        clear hwz
        have cS := HP.out.cS
        have cX := HP.out.cX
        have cB := HP.out.cB
        obtain ⟨p, hp1, hp2, hp3, hprun⟩ := period_run (n := n) (a := a) (by have := HN.out; omega) (by have := HN.out; omega) HA.out.1
        have HPR := Aside0.mk hprun
        have a0 : a.testBit 0 = true := by rw [Nat.testBit_zero]; exact decide_eq_true HA.out.2
        obtain ⟨m, hm⟩ : ∃ m, m = chSize n a := ⟨_, rfl⟩
        have hm1 : 1 ≤ m := by rw [hm, chSize_cnt]; exact cnt_pos (show 0 < n by have := HN.out; omega) a0
        have HCNT := Aside0.mk (fun W => (canon_count.calls (a : Int) (m : Int) W (by rw [count_f (n := n) (by have := HN.out; omega) HA.out.1, hm])).mono (fun e w' h => (show e = .returned (.int .i64 (m : Int)) ∧ ∃ q, w' = W.drewN q from ⟨h.1, by obtain ⟨q, hq⟩ := h.2; exact ⟨q, hq⟩⟩)))
        have HA0 := Aside0.mk a0
        obtain ⟨t, htq⟩ : ∃ t, t = n % m := ⟨_, rfl⟩
        have ht : Int.tmod (n : Int) (m : Int) = (t : Int) := by rw [Int.tmod_eq_emod_of_nonneg (by omega), htq]; rfl
        have hmz : ((m : Int) == 0) = false := beq_eq_false_iff_ne.2 (by omega)
        have HP3 := Aside0.mk hp3
        clear a0 hm htq hprun hp3 hle hle2
        by_cases ht0 : t = 0
        · have ht1 : ((t : Int) != 0) = false := by rw [ht0]; rfl
          clear ht0
          by_cases hpn : p = n
          · have hp4 : ((p : Int) != (n : Int)) = false := by rw [hpn]; exact bne_self_eq_false _
            have HPER := Aside0.mk (show perB n a = false from by
              cases h : perB n a with
              | false => rfl
              | true => have := HP3.out.1 h; omega)
            clear hpn
            go_quiet (first | (go_at_call 45; exact Calls.quiet_of (HCNT.out _)) | (go_at_call 43; exact Calls.quiet_of (HPR.out _)))
            clear cS cX cB
            generalize hwy : wz.drewN _ = wy
            have HP := Aside0.mk (show PlBox w.heap.size (w.heap.size + 1) w2.heap.size B n a wy from by rw [← hwy]; exact HP.out.drewN _)
            have HLT := Aside0.mk (show w2.heap.size < B ∧ B < wy.heap.size from by rw [← hwy]; exact HLT.out)
            have HB := Aside0.mk (show Below w.heap.size w wy from by rw [← hwy]; exact pw_below_drewN HB.out _)
            clear hwy
            have cS := HP.out.cS
            have cX := HP.out.cX
            have cB := HP.out.cB
            go_wp2_with fail
            refine (plain_parts (by have := HN.out; omega) (by have := HN.out; omega) HA.out.1 HA0.out HPER.out wy (Tabs.below HT.out HB.out) HP.out (by have := HLT.out; have := HS2.out; omega) (by have := HLT.out; have := HS2.out; omega) (by have := HLT.out; omega) HLT.out.2).mono ?_
            rintro e w5 ⟨⟨rv, rfl⟩, hp5, hb5⟩
            have HP := Aside0.mk hp5
            have HLT := Aside0.mk (show w2.heap.size < B ∧ B < w5.heap.size from ⟨HLT.out.1, Nat.lt_of_lt_of_le HLT.out.2 hb5.size⟩)
            have HB := Aside0.mk (below_step HB.out hb5)
            clear cS cX cB hp5 hb5
            have cS := HP.out.cS
            have cX := HP.out.cX
            have cB := HP.out.cB
            go_wp2
            go_roundg (gk - 1)
            case measure => have := HJ.out; omega
            case rel => exact ⟨w5.heap.size, j + 1, a + 2, rfl, ⟨⟨by have := HJ.out; omega, by have := HJ.out; omega⟩⟩, ⟨HP.out.next (by have := HJ.out; have := HA2.out; omega) rfl⟩, ⟨⟨by have := HLT.out; omega, by simp [World.size_alloc]⟩⟩, ⟨(new_cell w5 _ _).2⟩, ⟨below_alloc HB.out _⟩⟩
          · have hp4 : ((p : Int) != (n : Int)) = true := bne_iff_ne.2 (by omega)
            clear hpn
            go_quiet (first | (go_at_call 45; exact Calls.quiet_of (HCNT.out _)) | (go_at_call 43; exact Calls.quiet_of (HPR.out _)))
            clear cS cX cB
            generalize hwy : wz.drewN _ = wy
            have HP := Aside0.mk (show PlBox w.heap.size (w.heap.size + 1) w2.heap.size B n a wy from by rw [← hwy]; exact HP.out.drewN _)
            have HLT := Aside0.mk (show w2.heap.size < B ∧ B < wy.heap.size from by rw [← hwy]; exact HLT.out)
            have HB := Aside0.mk (show Below w.heap.size w wy from by rw [← hwy]; exact pw_below_drewN HB.out _)
            clear hwy
            have cS := HP.out.cS
            have cX := HP.out.cX
            have cB := HP.out.cB
            go_wp2
            go_roundg (gk - 1)
            case measure => have := HJ.out; omega
            case rel => exact ⟨wy.heap.size, j + 1, a + 2, rfl, ⟨⟨by have := HJ.out; omega, by have := HJ.out; omega⟩⟩, ⟨HP.out.next (by have := HJ.out; have := HA2.out; omega) rfl⟩, ⟨⟨by have := HLT.out; omega, by simp [World.size_alloc]⟩⟩, ⟨(new_cell wy _ _).2⟩, ⟨below_alloc HB.out _⟩⟩
        · have ht1 : ((t : Int) != 0) = true := bne_iff_ne.2 (by omega)
          clear ht0
          go_quiet (first | (go_at_call 45; exact Calls.quiet_of (HCNT.out _)))
          clear cS cX cB
          generalize hwy : wz.drewN _ = wy
          have HP := Aside0.mk (show PlBox w.heap.size (w.heap.size + 1) w2.heap.size B n a wy from by rw [← hwy]; exact HP.out.drewN _)
          have HLT := Aside0.mk (show w2.heap.size < B ∧ B < wy.heap.size from by rw [← hwy]; exact HLT.out)
          have HB := Aside0.mk (show Below w.heap.size w wy from by rw [← hwy]; exact pw_below_drewN HB.out _)
          clear hwy
          have cS := HP.out.cS
          have cX := HP.out.cX
          have cB := HP.out.cB
          go_wp2
          go_roundg (gk - 1)
          case measure => have := HJ.out; omega
          case rel => exact ⟨wy.heap.size, j + 1, a + 2, rfl, ⟨⟨by have := HJ.out; omega, by have := HJ.out; omega⟩⟩, ⟨HP.out.next (by have := HJ.out; have := HA2.out; omega) rfl⟩, ⟨⟨by have := HLT.out; omega, by simp [World.size_alloc]⟩⟩, ⟨(new_cell wy _ _).2⟩, ⟨below_alloc HB.out _⟩⟩
      · have hle : ¬ (a : Int) ≤ (M : Int) := by have := HJ.out; omega
        have hle2 : ¬ a ≤ M := by have := HJ.out; omega
        have cO := HP.out.cO
        clear hMN h2n
        go_wp2
        go_quiet ((go_at_call 44; exact Calls.quiet_of (HALL.out _)))
        go_wp2_with fail
        refine (sortf_none 0 none _ _).mono ?_
        rintro e w5 ⟨rfl, rfl⟩
        go_wp2
        go_ret2
        exact ⟨_, rfl, Kd.R_nil _ _ _ _ _, pw_below_drewN HB.out _⟩
  · rw [if_neg hok] at h
    injection h with h
    injection h with h1 h2
    subst h1 h2
    have hS1 : (w.alloc (.cells #[.int .i64 a0] 3)).heap.size = w.heap.size + 1 := by simp [World.size_alloc]
    have cS1 := (new_cell w (.int .i64 a0) 3).1
    have cS2 := old_cell (.cells #[.int .i64 a0] 47) cS1
    have hb2 : Below w.heap.size w ((w.alloc (.cells #[.int .i64 a0] 3)).alloc (.cells #[.int .i64 a0] 47)) := below_alloc (below_alloc (Below.refl _ _) _) _
    have hS2 : ((w.alloc (.cells #[.int .i64 a0] 3)).alloc (.cells #[.int .i64 a0] 47)).heap.size = w.heap.size + 1 + 1 := by simp [World.size_alloc]
    have HH := Aside0.mk (And.intro cS2 (And.intro hb2 hS2))
    clear hS1 cS1 cS2 hb2 hS2 hT
    by_cases hv : 2 ≤ a0 ∧ a0 ≤ 24
    · have HV2 := Aside0.mk (fun W => HV.out W true (decide_eq_true hv))
      have h16 : a0 > 16 := by omega
      clear hok HV hv
      go_enter Tryd.func22, Tryd.ntmps22
      go_wp2_with fail
      obtain ⟨Wq, hWq⟩ : ∃ Wq, Wq = ((w.alloc (.cells #[.int .i64 a0] 3)).alloc (.cells #[.int .i64 a0] 47)) := ⟨_, rfl⟩
      rw [← hWq] at HH ⊢
      clear hWq
      refine (HV2.out Wq).mono ?_
      rintro e w2 ⟨rfl, hb⟩
      obtain ⟨cS, hbq, hsq⟩ := HH.out
      have cS := (hb.cell (p := ⟨w.heap.size, 0, none⟩) (by rw [hsq]; simp only; omega)).trans cS
      have HB2 := Aside0.mk (below_step hbq hb)
      clear hb hbq hsq HH
      go_wp2
      go_ret2
      exact ⟨_, rfl, Kd.R_nil _ _ _ _ _, HB2.out⟩
    · have HV2 := Aside0.mk (fun W => HV.out W false (decide_eq_false hv))
      clear hok HV hv
      go_enter Tryd.func22, Tryd.ntmps22
      go_wp2_with fail
      obtain ⟨Wq, hWq⟩ : ∃ Wq, Wq = ((w.alloc (.cells #[.int .i64 a0] 3)).alloc (.cells #[.int .i64 a0] 47)) := ⟨_, rfl⟩
      rw [← hWq] at HH ⊢
      clear hWq
      refine (HV2.out Wq).mono ?_
      rintro e w2 ⟨rfl, hb⟩
      obtain ⟨cS, hbq, hsq⟩ := HH.out
      have HB2 := Aside0.mk (below_step hbq hb)
      clear hb hbq hsq HH cS
      go_wp2
      go_ret2
      exact ⟨_, rfl, Kd.R_nil _ _ _ _ _, HB2.out⟩

end Go.Proofs.YtkidgakjeahebaaDoor.P
namespace Go.Proofs.YtkidgakjeahebaaDoor.P
open Go.RowKit Go.Proofs.YtkidgakjeahebaaDoorW.PrintWords Go.Proofs.YtkidgakjeahebaaDoorW.PrintLast Go.Proofs.YtkidgakjeahebaaDoorW.PrintMore
attribute [local go_sem] max2_int min2_int max_two min_two max_three min_three max_four min_four   -- for this text's walks alone
set_option linter.unusedVariables false
set_option linter.unusedSimpArgs false

/-! canon.Partner and canon.Partners: the least of all partners, and how many there are -/
def PL (n a : Nat) : List Nat := vis n a (stA n a) (n + 1) 1 a
def minStep (m b : Nat) : Nat := if m = 0 ∨ b < m then b else m
def minB (l : List Nat) : Nat := l.foldl minStep 0
def minI (l : List Nat) : Int := ((minB l : Nat) : Int)
def lenI (l : List Nat) : Int := wrap64 ((l.length : Nat) : Int)
def canon_Partners.f (a0 a1 : Int) : Option (Int × Int) := if ValidR a0 a1 then some (lenI (PL a0.toNat a1.toNat), 0) else some (0, 2)
def canon_Partner.f (a0 a1 : Int) : Option (Int × Int) := if ValidR a0 a1 then (if minI (PL a0.toNat a1.toNat) = 0 then some (0, 4) else some (minI (PL a0.toNat a1.toNat), 0)) else some (0, 2)
theorem minB_snoc (l : List Nat) (b : Nat) : minB (l ++ [b]) = minStep (minB l) b := by unfold minB; rw [List.foldl_append]; rfl
theorem lenI_nil : lenI [] = 0 := by unfold lenI wrap64; decide
theorem minI_nil : minI [] = 0 := rfl
theorem lenI_snoc (l : List Nat) (b : Nat) : lenI (l ++ [b]) = wrap64 (lenI l + 1) := by
  unfold lenI
  rw [List.length_append, List.length_singleton]
  unfold wrap64
  omega
def StepsOut (f : List Nat → Int) (g : Nat) : Prop := ∀ (pre : List Nat) (b : Nat) (W : World) (B : Nat), W.cell? ⟨B, 0, none⟩ = some (.int .i64 (f pre)) → W.frozen? ⟨B, 0, none⟩ = false →
  Calls Tryd.prog g #[.int .i64 (b : Int), .pointer (some ⟨B, 0, none⟩)] W fun e w' => e = .returned (.bool true) ∧ ((w' = W.setCell ⟨B, 0, none⟩ (.int .i64 (f (pre ++ [b])))) ∨ (w' = W ∧ f (pre ++ [b]) = f pre))
theorem partners_more : StepsOut lenI 32 := by
  intro pre b W B hc hf
  have HL := Aside0.mk (lenI_snoc pre b)
  generalize lenI pre = c at hc HL
  obtain ⟨d, hd⟩ : ∃ d, wrap64 (c + 1) = d := ⟨_, rfl⟩
  have hd2 : IntKind.i64.wrap (c + 1) = d := (i64_w _).trans hd
  rw [hd] at HL
  go_enter Tryd.func32, Tryd.ntmps32
  go_wp2
  go_ret
  refine ⟨rfl, .inl ?_⟩
  rw [HL.out]
theorem partner_more : StepsOut minI 31 := by
  intro pre b W B hc hf
  have HL := Aside0.mk (show minI (pre ++ [b]) = ((minStep (minB pre) b : Nat) : Int) by unfold minI; rw [minB_snoc])
  have HM := Aside0.mk (show minI pre = ((minB pre : Nat) : Int) from rfl)
  rw [HM.out] at hc
  generalize hm : minB pre = m at hc HL HM
  clear hm
  by_cases hz : m = 0
  · have e1 : ((m : Int) == 0) = true := by rw [hz]; rfl
    have HL2 := Aside0.mk (show minI (pre ++ [b]) = (b : Int) by rw [HL.out]; unfold minStep; rw [if_pos (.inl hz)])
    clear hz HL
    go_enter Tryd.func31, Tryd.ntmps31
    go_wp2
    go_ret
    refine ⟨rfl, .inl ?_⟩
    rw [HL2.out]
  · have e1 : ((m : Int) == 0) = false := beq_eq_false_iff_ne.2 (by omega)
    by_cases hl : b < m
    · have e2 : decide ((b : Int) < (m : Int)) = true := decide_eq_true (by omega)
      have e3 : decide (b < m) = true := decide_eq_true hl
      have HL2 := Aside0.mk (show minI (pre ++ [b]) = (b : Int) by rw [HL.out]; unfold minStep; rw [if_pos (.inr hl)])
      clear hz HL hl
      go_enter Tryd.func31, Tryd.ntmps31
      go_wp2
      go_ret
      refine ⟨rfl, .inl ?_⟩
      rw [HL2.out]
    · have e2 : decide ((b : Int) < (m : Int)) = false := decide_eq_false (by omega)
      have e3 : decide (b < m) = false := decide_eq_false hl
      have HL2 := Aside0.mk (show minI (pre ++ [b]) = minI pre by rw [HL.out, HM.out]; unfold minStep; rw [if_neg (fun h => h.elim hz hl)])
      clear hz HL hl
      go_enter Tryd.func31, Tryd.ntmps31
      go_wp2
      go_ret
      exact ⟨rfl, .inr ⟨rfl, HL2.out⟩⟩
theorem out_run (f : List Nat → Int) (g : Nat) (hg : StepsOut f g) (eg : ∀ args w, (callFunc g args).run Tryd.prog w = .ok (.enter g args) w) (hf0 : f [] = 0) {a0 a1 : Int} (hc : ValidR a0 a1) (w : World) (hT : Tabs w) (w2 : World) (hb : Below w.heap.size w w2) :
    Calls Tryd.prog 30 #[.int .i64 a0, .int .i64 a1, .func (.func g) #[] #[.pointer (some ⟨w2.heap.size, 0, none⟩)]] (w2.alloc (.cells #[.int .i64 0] 3)) fun e w' => (∃ v, e = .returned v) ∧
      w'.cell? ⟨w2.heap.size, 0, none⟩ = some (.int .i64 (f (PL a0.toNat a1.toNat))) ∧ Below w.heap.size w w' := by
  obtain ⟨n, a, rfl, rfl, hn, hn2, ha, h0⟩ := validR_nat hc
  obtain ⟨B, hB⟩ : ∃ B, B = w2.heap.size := ⟨_, rfl⟩
  rw [← hB]
  have hB1 : 1 < B := by rw [hB]; exact Nat.lt_of_lt_of_le hT.size hb.size
  have hwB : w.heap.size ≤ B := by rw [hB]; exact hb.size
  have hnew := new_cell w2 (.int .i64 0) 3
  rw [← hB] at hnew
  have hsz : (w2.alloc (.cells #[.int .i64 0] 3)).heap.size = B + 1 := by rw [World.size_alloc, ← hB]
  have hbw : Below w.heap.size w (w2.alloc (.cells #[.int .i64 0] 3)) := below_alloc hb _
  refine (partners_calls (B + 1) n a g #[.pointer (some ⟨B, 0, none⟩)] true (fun pre W => W.cell? ⟨B, 0, none⟩ = some (.int .i64 (f pre)) ∧ W.frozen? ⟨B, 0, none⟩ = false ∧ Below w.heap.size w W) eg hn hn2 ha h0 _ (hT.below hbw) hsz.symm ?_ ?_ ?_).mono ?_
  · rintro s A q ⟨h1, h2, h3⟩
    exact ⟨h1, h2, pw_below_drewN h3 q⟩
  · intro W hW
    refine ⟨?_, ?_, hbw.trans (hW.mono (by omega))⟩
    · rw [hf0]; exact (hW.cell (p := ⟨B, 0, none⟩) (by simp)).trans hnew.1
    · exact (hW.frozen (p := ⟨B, 0, none⟩) (by simp)).trans hnew.2
  · rintro pre b W ⟨h1, h2, h3⟩ _ _
    refine (hg pre b W B h1 h2).mono ?_
    rintro e w' ⟨rfl, (rfl | ⟨rfl, h⟩)⟩
    · refine ⟨rfl, ⟨World.cell?_setCell_same' _ _ _ (by rw [h1]; rfl), by rw [World.frozen?_setCell]; exact h2, h3.setCell (p := ⟨B, 0, none⟩) hwB _⟩, fun i hi _ => Below.heap_setCell W ⟨B, 0, none⟩ _ i (by simp only [ne_eq]; omega), Below.heap_setCell W ⟨B, 0, none⟩ _ 1 (by simp only [ne_eq]; omega)⟩
    · exact ⟨rfl, ⟨by rw [h]; exact h1, h2, h3⟩, KeepB.refl _ _⟩
  · rintro e w' ⟨hv, h1, h2, h3⟩
    exact ⟨hv, h1, h3⟩
set_option maxHeartbeats 4000000 in
set_option maxRecDepth 100000 in
theorem canon_Partners.calls (a0 a1 r1 r2 : Int) (w : World) (hT : Tabs w) (h : canon_Partners.f a0 a1 = some (r1, r2)) :
    Calls Tryd.prog 13 #[.int .i64 a0, .int .i64 a1] w fun e w' => e = .returned (.tuple #[.int .i64 r1, .int .i64 r2]) ∧ Below w.heap.size w w' := by
  have HB := Aside0.mk (Below.refl w.heap.size w)
  have HT := Aside0.mk hT
  unfold canon_Partners.f at h
  have hv := valid1_f a0 a1
  obtain ⟨y, hy⟩ : ∃ y : List Int, y = [a1] := ⟨_, rfl⟩
  rw [← hy] at hv
  have HY := Aside0.mk hy
  clear hy hT
  have hmf : ∀ (fn : Fn) (first cap : Array Value) (w : World), (Instr.makeFunc fn first cap).run Tryd.prog w = .ok (.func fn first cap) w := fun _ _ _ _ => rfl
  by_cases hc : ValidR a0 a1
  · rw [decide_eq_true hc] at hv
    rw [if_pos hc] at h
    have HV := Aside0.mk hv
    have HRUN := Aside0.mk (fun (w2 : World) (hb2 : Below w.heap.size w w2) => out_run lenI 32 partners_more (enters_of Tryd.func32 (by kernel_rfl) rfl) lenI_nil hc w HT.out w2 hb2)
    obtain ⟨v, hv2⟩ : ∃ v, lenI (PL a0.toNat a1.toNat) = v := ⟨_, rfl⟩
    rw [hv2] at h HRUN
    simp only [Option.some.injEq, Prod.mk.injEq] at h
    obtain ⟨rfl, rfl⟩ := h
    clear hv hc hv2
    go_enter Tryd.func13, Tryd.ntmps13
    go_wp2_with (first | ((with_reducible refine gate_dst (N := 9) rfl ?_); refine Kd.R_lit (Kd.int .i64) _ 3 ?hg (N := 9) ?hd (xs := ([a1] : List Int)) (inner := [.int .i64 a1]) (ok := fun _ => True) (okp := fun _ => True) ?hr ?hp (fun _ hk => hk) trivial (Below.refl _ _) (Nat.le_refl _) (by simp) ?_; (case hd => rfl); (case hg => rfl); (case hr => first | (go_simp; done) | (go_simp; rfl)); (case hp => exact (Reps.one (show Kd.M (Kd.int .i64) _ _ _ a1 [.int .i64 a1] from rfl) (Reps.none _ _))); intro v1002 w7 ho8 hb hg_ hnew_; clear hg_ hnew_; rw [← HY.out] at ho8; have n0_ := Aside0.mk (Kd.R_lower ho8 (below_size (by repeat (first | (with_reducible first | exact HB.out | apply below_alloc | apply pw_below_drewN | apply below_drew1) | exact HB.out)))); have n1_ := Aside0.mk (below_step (by repeat (first | (with_reducible first | exact HB.out | apply below_alloc | apply pw_below_drewN | apply below_drew1) | exact HB.out)) hb); clear HB; have HO := n0_; have HB := n1_; clear n0_ n1_; clear hb ho8; obtain ⟨Ao9, co9, eo9⟩ := Kd.R_slice HO.out; subst eo9) | ((with_reducible refine gate_callee (f := 28) rfl ?_); refine goesL_ (some 10) rfl rfl Tryd.func28 (by kernel_rfl) rfl #[.int .i64 a0, .slice Ao9 y.length co9] rfl (by (try simp only [List.map_toArray, List.map_cons, List.map_nil]); first | done | rfl) ?_; (with_reducible refine (canon_circle_valid.calls a0 _ _ y true _ ?side1 ?side2 HV.out).mono ?_); (case side1 => repeat (first | exact (Kd.R_reads' HO.out).2.2 | (with_reducible refine Kd.C_alloc ?_ _) | (with_reducible refine Kd.C_drewN ?_ _) | (with_reducible refine Kd.C_drew ?_))); (case side2 => exact (Kd.R_reads' HO.out).2.1); rintro e w10 ⟨rfl, hb⟩; refine ⟨_, rfl, ?_⟩; have n0_ := Aside0.mk (below_step (by repeat (first | (with_reducible first | exact HB.out | apply below_alloc | apply pw_below_drewN | apply below_drew1) | exact HB.out)) hb); clear HB HO; have HB := n0_; clear n0_ hb))
    refine (HRUN.out _ HB.out).mono ?_
    rintro e w12 ⟨⟨rv, rfl⟩, hcell, hb⟩
    clear HB
    have HB := Aside0.mk hb
    clear hb
    go_wp2
    go_ret2
    exact ⟨by first | rfl | simp, HB.out⟩
  · rw [decide_eq_false hc] at hv
    rw [if_neg hc] at h
    have HV := Aside0.mk hv
    simp only [Option.some.injEq, Prod.mk.injEq] at h
    obtain ⟨rfl, rfl⟩ := h
    clear hv hc
    go_enter Tryd.func13, Tryd.ntmps13
    go_wp2_with (first | ((with_reducible refine gate_dst (N := 9) rfl ?_); refine Kd.R_lit (Kd.int .i64) _ 3 ?hg (N := 9) ?hd (xs := ([a1] : List Int)) (inner := [.int .i64 a1]) (ok := fun _ => True) (okp := fun _ => True) ?hr ?hp (fun _ hk => hk) trivial (Below.refl _ _) (Nat.le_refl _) (by simp) ?_; (case hd => rfl); (case hg => rfl); (case hr => first | (go_simp; done) | (go_simp; rfl)); (case hp => exact (Reps.one (show Kd.M (Kd.int .i64) _ _ _ a1 [.int .i64 a1] from rfl) (Reps.none _ _))); intro v1002 w7 ho8 hb hg_ hnew_; clear hg_ hnew_; rw [← HY.out] at ho8; have n0_ := Aside0.mk (Kd.R_lower ho8 (below_size (by repeat (first | (with_reducible first | exact HB.out | apply below_alloc | apply pw_below_drewN | apply below_drew1) | exact HB.out)))); have n1_ := Aside0.mk (below_step (by repeat (first | (with_reducible first | exact HB.out | apply below_alloc | apply pw_below_drewN | apply below_drew1) | exact HB.out)) hb); clear HB; have HO := n0_; have HB := n1_; clear n0_ n1_; clear hb ho8; obtain ⟨Ao9, co9, eo9⟩ := Kd.R_slice HO.out; subst eo9) | ((with_reducible refine gate_callee (f := 28) rfl ?_); refine goesL_ (some 10) rfl rfl Tryd.func28 (by kernel_rfl) rfl #[.int .i64 a0, .slice Ao9 y.length co9] rfl (by (try simp only [List.map_toArray, List.map_cons, List.map_nil]); first | done | rfl) ?_; (with_reducible refine (canon_circle_valid.calls a0 _ _ y false _ ?side1 ?side2 HV.out).mono ?_); (case side1 => repeat (first | exact (Kd.R_reads' HO.out).2.2 | (with_reducible refine Kd.C_alloc ?_ _) | (with_reducible refine Kd.C_drewN ?_ _) | (with_reducible refine Kd.C_drew ?_))); (case side2 => exact (Kd.R_reads' HO.out).2.1); rintro e w10 ⟨rfl, hb⟩; refine ⟨_, rfl, ?_⟩; have n0_ := Aside0.mk (below_step (by repeat (first | (with_reducible first | exact HB.out | apply below_alloc | apply pw_below_drewN | apply below_drew1) | exact HB.out)) hb); clear HB HO; have HB := n0_; clear n0_ hb))
    go_ret2
    exact ⟨by first | rfl | simp, (by repeat (first | (with_reducible first | exact HB.out | apply below_alloc | apply pw_below_drewN | apply below_drew1) | exact HB.out))⟩

set_option maxHeartbeats 4000000 in
set_option maxRecDepth 100000 in
theorem canon_Partner.calls (a0 a1 r1 r2 : Int) (w : World) (hT : Tabs w) (h : canon_Partner.f a0 a1 = some (r1, r2)) :
    Calls Tryd.prog 12 #[.int .i64 a0, .int .i64 a1] w fun e w' => e = .returned (.tuple #[.int .i64 r1, .int .i64 r2]) ∧ Below w.heap.size w w' := by
  have HB := Aside0.mk (Below.refl w.heap.size w)
  have HT := Aside0.mk hT
  unfold canon_Partner.f at h
  have hv := valid1_f a0 a1
  obtain ⟨y, hy⟩ : ∃ y : List Int, y = [a1] := ⟨_, rfl⟩
  rw [← hy] at hv
  have HY := Aside0.mk hy
  clear hy hT
  have hmf : ∀ (fn : Fn) (first cap : Array Value) (w : World), (Instr.makeFunc fn first cap).run Tryd.prog w = .ok (.func fn first cap) w := fun _ _ _ _ => rfl
  by_cases hc : ValidR a0 a1
  · rw [decide_eq_true hc] at hv
    rw [if_pos hc] at h
    have HV := Aside0.mk hv
    have HRUN := Aside0.mk (fun (w2 : World) (hb2 : Below w.heap.size w w2) => out_run minI 31 partner_more (enters_of Tryd.func31 (by kernel_rfl) rfl) minI_nil hc w HT.out w2 hb2)
    obtain ⟨v, hv2⟩ : ∃ v, minI (PL a0.toNat a1.toNat) = v := ⟨_, rfl⟩
    rw [hv2] at h HRUN
    clear hv hc hv2
    by_cases hz : v = 0
    · rw [if_pos hz] at h
      simp only [Option.some.injEq, Prod.mk.injEq] at h
      obtain ⟨rfl, rfl⟩ := h
      have hz2 : (v == 0) = true := by rw [hz]; rfl
      clear hz
      go_enter Tryd.func12, Tryd.ntmps12
      go_wp2_with (first | ((with_reducible refine gate_dst (N := 9) rfl ?_); refine Kd.R_lit (Kd.int .i64) _ 3 ?hg (N := 9) ?hd (xs := ([a1] : List Int)) (inner := [.int .i64 a1]) (ok := fun _ => True) (okp := fun _ => True) ?hr ?hp (fun _ hk => hk) trivial (Below.refl _ _) (Nat.le_refl _) (by simp) ?_; (case hd => rfl); (case hg => rfl); (case hr => first | (go_simp; done) | (go_simp; rfl)); (case hp => exact (Reps.one (show Kd.M (Kd.int .i64) _ _ _ a1 [.int .i64 a1] from rfl) (Reps.none _ _))); intro v1002 w7 ho8 hb hg_ hnew_; clear hg_ hnew_; rw [← HY.out] at ho8; have n0_ := Aside0.mk (Kd.R_lower ho8 (below_size (by repeat (first | (with_reducible first | exact HB.out | apply below_alloc | apply pw_below_drewN | apply below_drew1) | exact HB.out)))); have n1_ := Aside0.mk (below_step (by repeat (first | (with_reducible first | exact HB.out | apply below_alloc | apply pw_below_drewN | apply below_drew1) | exact HB.out)) hb); clear HB; have HO := n0_; have HB := n1_; clear n0_ n1_; clear hb ho8; obtain ⟨Ao9, co9, eo9⟩ := Kd.R_slice HO.out; subst eo9) | ((with_reducible refine gate_callee (f := 28) rfl ?_); refine goesL_ (some 10) rfl rfl Tryd.func28 (by kernel_rfl) rfl #[.int .i64 a0, .slice Ao9 y.length co9] rfl (by (try simp only [List.map_toArray, List.map_cons, List.map_nil]); first | done | rfl) ?_; (with_reducible refine (canon_circle_valid.calls a0 _ _ y true _ ?side1 ?side2 HV.out).mono ?_); (case side1 => repeat (first | exact (Kd.R_reads' HO.out).2.2 | (with_reducible refine Kd.C_alloc ?_ _) | (with_reducible refine Kd.C_drewN ?_ _) | (with_reducible refine Kd.C_drew ?_))); (case side2 => exact (Kd.R_reads' HO.out).2.1); rintro e w10 ⟨rfl, hb⟩; refine ⟨_, rfl, ?_⟩; have n0_ := Aside0.mk (below_step (by repeat (first | (with_reducible first | exact HB.out | apply below_alloc | apply pw_below_drewN | apply below_drew1) | exact HB.out)) hb); clear HB HO; have HB := n0_; clear n0_ hb))
      refine (HRUN.out _ HB.out).mono ?_
      rintro e w12 ⟨⟨rv, rfl⟩, hcell, hb⟩
      clear HB
      have HB := Aside0.mk hb
      clear hb
      go_wp2
      go_ret2
      exact ⟨by first | rfl | simp, HB.out⟩
    · rw [if_neg hz] at h
      simp only [Option.some.injEq, Prod.mk.injEq] at h
      obtain ⟨rfl, rfl⟩ := h
      have hz2 : (v == 0) = false := beq_eq_false_iff_ne.2 hz
      clear hz
      go_enter Tryd.func12, Tryd.ntmps12
      go_wp2_with (first | ((with_reducible refine gate_dst (N := 9) rfl ?_); refine Kd.R_lit (Kd.int .i64) _ 3 ?hg (N := 9) ?hd (xs := ([a1] : List Int)) (inner := [.int .i64 a1]) (ok := fun _ => True) (okp := fun _ => True) ?hr ?hp (fun _ hk => hk) trivial (Below.refl _ _) (Nat.le_refl _) (by simp) ?_; (case hd => rfl); (case hg => rfl); (case hr => first | (go_simp; done) | (go_simp; rfl)); (case hp => exact (Reps.one (show Kd.M (Kd.int .i64) _ _ _ a1 [.int .i64 a1] from rfl) (Reps.none _ _))); intro v1002 w7 ho8 hb hg_ hnew_; clear hg_ hnew_; rw [← HY.out] at ho8; have n0_ := Aside0.mk (Kd.R_lower ho8 (below_size (by repeat (first | (with_reducible first | exact HB.out | apply below_alloc | apply pw_below_drewN | apply below_drew1) | exact HB.out)))); have n1_ := Aside0.mk (below_step (by repeat (first | (with_reducible first | exact HB.out | apply below_alloc | apply pw_below_drewN | apply below_drew1) | exact HB.out)) hb); clear HB; have HO := n0_; have HB := n1_; clear n0_ n1_; clear hb ho8; obtain ⟨Ao9, co9, eo9⟩ := Kd.R_slice HO.out; subst eo9) | ((with_reducible refine gate_callee (f := 28) rfl ?_); refine goesL_ (some 10) rfl rfl Tryd.func28 (by kernel_rfl) rfl #[.int .i64 a0, .slice Ao9 y.length co9] rfl (by (try simp only [List.map_toArray, List.map_cons, List.map_nil]); first | done | rfl) ?_; (with_reducible refine (canon_circle_valid.calls a0 _ _ y true _ ?side1 ?side2 HV.out).mono ?_); (case side1 => repeat (first | exact (Kd.R_reads' HO.out).2.2 | (with_reducible refine Kd.C_alloc ?_ _) | (with_reducible refine Kd.C_drewN ?_ _) | (with_reducible refine Kd.C_drew ?_))); (case side2 => exact (Kd.R_reads' HO.out).2.1); rintro e w10 ⟨rfl, hb⟩; refine ⟨_, rfl, ?_⟩; have n0_ := Aside0.mk (below_step (by repeat (first | (with_reducible first | exact HB.out | apply below_alloc | apply pw_below_drewN | apply below_drew1) | exact HB.out)) hb); clear HB HO; have HB := n0_; clear n0_ hb))
      refine (HRUN.out _ HB.out).mono ?_
      rintro e w12 ⟨⟨rv, rfl⟩, hcell, hb⟩
      clear HB
      have HB := Aside0.mk hb
      clear hb
      go_wp2
      go_ret2
      exact ⟨by first | rfl | simp, HB.out⟩
  · rw [decide_eq_false hc] at hv
    rw [if_neg hc] at h
    have HV := Aside0.mk hv
    simp only [Option.some.injEq, Prod.mk.injEq] at h
    obtain ⟨rfl, rfl⟩ := h
    clear hv hc
    go_enter Tryd.func12, Tryd.ntmps12
    go_wp2_with (first | ((with_reducible refine gate_dst (N := 9) rfl ?_); refine Kd.R_lit (Kd.int .i64) _ 3 ?hg (N := 9) ?hd (xs := ([a1] : List Int)) (inner := [.int .i64 a1]) (ok := fun _ => True) (okp := fun _ => True) ?hr ?hp (fun _ hk => hk) trivial (Below.refl _ _) (Nat.le_refl _) (by simp) ?_; (case hd => rfl); (case hg => rfl); (case hr => first | (go_simp; done) | (go_simp; rfl)); (case hp => exact (Reps.one (show Kd.M (Kd.int .i64) _ _ _ a1 [.int .i64 a1] from rfl) (Reps.none _ _))); intro v1002 w7 ho8 hb hg_ hnew_; clear hg_ hnew_; rw [← HY.out] at ho8; have n0_ := Aside0.mk (Kd.R_lower ho8 (below_size (by repeat (first | (with_reducible first | exact HB.out | apply below_alloc | apply pw_below_drewN | apply below_drew1) | exact HB.out)))); have n1_ := Aside0.mk (below_step (by repeat (first | (with_reducible first | exact HB.out | apply below_alloc | apply pw_below_drewN | apply below_drew1) | exact HB.out)) hb); clear HB; have HO := n0_; have HB := n1_; clear n0_ n1_; clear hb ho8; obtain ⟨Ao9, co9, eo9⟩ := Kd.R_slice HO.out; subst eo9) | ((with_reducible refine gate_callee (f := 28) rfl ?_); refine goesL_ (some 10) rfl rfl Tryd.func28 (by kernel_rfl) rfl #[.int .i64 a0, .slice Ao9 y.length co9] rfl (by (try simp only [List.map_toArray, List.map_cons, List.map_nil]); first | done | rfl) ?_; (with_reducible refine (canon_circle_valid.calls a0 _ _ y false _ ?side1 ?side2 HV.out).mono ?_); (case side1 => repeat (first | exact (Kd.R_reads' HO.out).2.2 | (with_reducible refine Kd.C_alloc ?_ _) | (with_reducible refine Kd.C_drewN ?_ _) | (with_reducible refine Kd.C_drew ?_))); (case side2 => exact (Kd.R_reads' HO.out).2.1); rintro e w10 ⟨rfl, hb⟩; refine ⟨_, rfl, ?_⟩; have n0_ := Aside0.mk (below_step (by repeat (first | (with_reducible first | exact HB.out | apply below_alloc | apply pw_below_drewN | apply below_drew1) | exact HB.out)) hb); clear HB HO; have HB := n0_; clear n0_ hb))
    go_ret2
    exact ⟨by first | rfl | simp, (by repeat (first | (with_reducible first | exact HB.out | apply below_alloc | apply pw_below_drewN | apply below_drew1) | exact HB.out))⟩

end Go.Proofs.YtkidgakjeahebaaDoor.P
namespace Go.Proofs.YtkidgakjeahebaaDoor.P
open Go.RowKit Go.Proofs.YtkidgakjeahebaaDoorW.PrintWords Go.Proofs.YtkidgakjeahebaaDoorW.PrintLast Go.Proofs.YtkidgakjeahebaaDoorW.PrintMore
attribute [local go_sem] max2_int min2_int max_two min_two max_three min_three max_four min_four   -- for this text's walks alone
set_option linter.unusedVariables false
set_option linter.unusedSimpArgs false

/-! canon.fills: whether there is a partner -/
def canon_circle_fills.f (a0 a1 : Int) : Option Bool := if ValidR a0 a1 then some (Nat.beq (a0.toNat % cntBits a0.toNat a1.toNat) 0 && !(PL a0.toNat a1.toNat).isEmpty) else none
theorem fills1_calls (W : World) (B : Nat) (x : Bool) (b : Int) (h1 : W.cell? ⟨B, 0, none⟩ = some (.bool x)) (h2 : W.frozen? ⟨B, 0, none⟩ = false) :
    Calls Tryd.prog 69 #[.int .i64 b, .pointer (some ⟨B, 0, none⟩)] W fun e w' => e = .returned (.bool false) ∧ w' = W.setCell ⟨B, 0, none⟩ (.bool true) := by
  go_enter Tryd.func69, Tryd.ntmps69
  go_wp2
  go_ret
  exact ⟨rfl, rfl⟩
theorem fills_run {n a : Nat} (hn : 2 ≤ n) (hn2 : n ≤ 24) (ha : a < 2 ^ n) (h0 : a.testBit 0 = true) (w : World) (hT : Tabs w) (V : World) (B : Nat) (hc : V.cell? ⟨B, 0, none⟩ = some (.bool false)) (hf : V.frozen? ⟨B, 0, none⟩ = false) (hwB : w.heap.size ≤ B) (hsz : V.heap.size = B + 1) (hbw : Below w.heap.size w V) :
    Calls Tryd.prog 30 #[.int .i64 (n : Int), .int .i64 (a : Int), .func (.func 69) #[] #[.pointer (some ⟨B, 0, none⟩)]] V fun e w' => (∃ v, e = .returned v) ∧
      w'.cell? ⟨B, 0, none⟩ = some (.bool (!(PL n a).isEmpty)) ∧ Below w.heap.size w w' := by
  have hB1 : 1 < B := Nat.lt_of_lt_of_le hT.size hwB
  have hnew : V.cell? ⟨B, 0, none⟩ = some (.bool false) ∧ V.frozen? ⟨B, 0, none⟩ = false := ⟨hc, hf⟩
  refine (partners_calls (B + 1) n a 69 #[.pointer (some ⟨B, 0, none⟩)] false (fun pre W => W.cell? ⟨B, 0, none⟩ = some (.bool (!pre.isEmpty)) ∧ W.frozen? ⟨B, 0, none⟩ = false ∧ Below w.heap.size w W) (enters_of Tryd.func69 (by kernel_rfl) rfl) hn hn2 ha h0 _ (hT.below hbw) hsz.symm ?_ ?_ ?_).mono ?_
  · rintro s A q ⟨h1, h2, h3⟩
    exact ⟨h1, h2, pw_below_drewN h3 q⟩
  · intro W hW
    exact ⟨(hW.cell (p := ⟨B, 0, none⟩) (by simp)).trans hnew.1, (hW.frozen (p := ⟨B, 0, none⟩) (by simp)).trans hnew.2, hbw.trans (hW.mono (by omega))⟩
  · rintro pre b W ⟨h1, h2, h3⟩ _ _
    refine (fills1_calls W B _ b h1 h2).mono ?_
    rintro e w' ⟨rfl, rfl⟩
    refine ⟨rfl, ⟨?_, by rw [World.frozen?_setCell]; exact h2, h3.setCell (p := ⟨B, 0, none⟩) hwB _⟩, fun i hi _ => Below.heap_setCell W ⟨B, 0, none⟩ _ i (by simp only [ne_eq]; omega), Below.heap_setCell W ⟨B, 0, none⟩ _ 1 (by simp only [ne_eq]; omega)⟩
    have e : (!(pre ++ [b]).isEmpty) = true := by simp
    rw [e]
    exact World.cell?_setCell_same' _ _ _ (by rw [h1]; rfl)
  · rintro e w' ⟨hv, h1, h2, h3⟩
    refine ⟨hv, ?_, h3⟩
    rw [h1]
    have : (took false (vis n a (stA n a) (n + 1) 1 a)).isEmpty = (PL n a).isEmpty := by
      unfold took PL
      cases vis n a (stA n a) (n + 1) 1 a <;> rfl
    rw [this]
set_option maxHeartbeats 4000000 in
set_option maxRecDepth 100000 in
theorem canon_circle_fills.calls (a0 a1 : Int) (r : Bool) (w : World) (hT : Tabs w) (h : canon_circle_fills.f a0 a1 = some r) :
    Calls Tryd.prog 50 #[.int .i64 a0, .int .i64 a1] w fun e w' => e = .returned (.bool r) ∧ Below w.heap.size w w' := by
  unfold canon_circle_fills.f at h
  by_cases hv : ValidR a0 a1
  · rw [if_pos hv] at h
    obtain ⟨n, a, rfl, rfl, h2, h24, hA, h0⟩ := validR_nat hv
    simp only [Int.toNat_natCast] at h
    have hnew := new_cell w (.bool false) 4
    have hbw : Below w.heap.size w (w.alloc (.cells #[.bool false] 4)) := below_alloc (Below.refl _ _) _
    have hsz : (w.alloc (.cells #[.bool false] 4)).heap.size = w.heap.size + 1 := by simp [World.size_alloc]
    have hmf : ∀ (fn : Fn) (first cap : Array Value) (w : World), (Instr.makeFunc fn first cap).run Tryd.prog w = .ok (.func fn first cap) w := fun _ _ _ _ => rfl
    obtain ⟨m, hm⟩ : ∃ m, m = cntBits n a := ⟨_, rfl⟩
    have hm1 : 1 ≤ m := by rw [hm, chSize_bits, chSize_cnt]; exact cnt_pos (show 0 < n by omega) h0
    have HCNT := Aside0.mk (fun W => (canon_count.calls (a : Int) (m : Int) W (by rw [count_f (n := n) h24 hA, hm, chSize_bits])).mono (fun e w' h => (show e = .returned (.int .i64 (m : Int)) ∧ ∃ q, w' = W.drewN q from ⟨h.1, by obtain ⟨q, hq⟩ := h.2; exact ⟨q, hq⟩⟩)))
    obtain ⟨t, htq⟩ : ∃ t, t = n % m := ⟨_, rfl⟩
    have ht : Int.tmod (n : Int) (m : Int) = (t : Int) := by rw [Int.tmod_eq_emod_of_nonneg (by omega), htq]; rfl
    have ht2 : (n : Int) % (m : Int) = (t : Int) := by rw [htq]; rfl
    have hmz : ((m : Int) == 0) = false := beq_eq_false_iff_ne.2 (by omega)
    rw [← hm, ← htq] at h
    have HB := Aside0.mk hbw
    have HN := Aside0.mk hnew
    have HS := Aside0.mk hsz
    clear hv hm htq
    by_cases ht0 : t = 0
    · rw [ht0, show Nat.beq 0 0 = true from rfl, Bool.true_and] at h
      have h1 := Option.some.inj h
      have HRUN := Aside0.mk (fun V (hc : V.cell? ⟨w.heap.size, 0, none⟩ = some (.bool false)) hf hz hb => fills_run h2 h24 hA h0 w hT V w.heap.size hc hf (Nat.le_refl _) hz hb)
      have HR1 := Aside0.mk h1
      have ht3 : ((t : Int) == 0) = true := by rw [ht0]; rfl
      clear ht0 h h1 hnew hbw hsz h0 hA hT
      go_enter Tryd.func50, Tryd.ntmps50
      go_wp2_with fail
      refine (HCNT.out _).mono ?_
      rintro e w2 ⟨rfl, q, rfl⟩
      have HC2 := Aside0.mk (show ((w.alloc (.cells #[.bool false] 4)).drewN q).cell? ⟨w.heap.size, 0, none⟩ = some (.bool false) from HN.out.1)
      have HF2 := Aside0.mk (show ((w.alloc (.cells #[.bool false] 4)).drewN q).frozen? ⟨w.heap.size, 0, none⟩ = false from HN.out.2)
      have HZ2 := Aside0.mk (show ((w.alloc (.cells #[.bool false] 4)).drewN q).heap.size = w.heap.size + 1 from HS.out)
      have HB2 := Aside0.mk (pw_below_drewN HB.out q)
      generalize (w.alloc (.cells #[.bool false] 4)).drewN q = w2 at HC2 HF2 HZ2 HB2 ⊢
      go_wp2_with fail
      refine (HRUN.out w2 HC2.out HF2.out HZ2.out HB2.out).mono ?_
      rintro e w3 ⟨⟨rv, rfl⟩, hc3, hb3⟩
      have HB3 := Aside0.mk hb3
      rw [HR1.out] at hc3
      clear hb3
      go_wp2
      go_ret
      exact ⟨rfl, HB3.out⟩
    · rw [show Nat.beq t 0 = false from Bool.eq_false_iff.2 (fun h => ht0 (Nat.eq_of_beq_eq_true h)), Bool.false_and] at h
      have h1 := Option.some.inj h
      subst h1
      have ht3 : ((t : Int) == 0) = false := beq_eq_false_iff_ne.2 (by omega)
      clear ht0 h hbw hsz h0 hA hT
      go_enter Tryd.func50, Tryd.ntmps50
      have hc0 := hnew.1
      go_wp2_with fail
      refine (HCNT.out _).mono ?_
      rintro e w2 ⟨rfl, q, rfl⟩
      have hc2 : ((w.alloc (.cells #[.bool false] 4)).drewN q).cell? ⟨w.heap.size, 0, none⟩ = some (.bool false) := HN.out.1
      have HB2 := Aside0.mk (pw_below_drewN HB.out q)
      generalize (w.alloc (.cells #[.bool false] 4)).drewN q = w2 at hc2 HB2 ⊢
      clear hc0 hnew
      go_wp2
      go_ret
      exact ⟨rfl, HB2.out⟩
  · rw [if_neg hv] at h; cases h

end Go.Proofs.YtkidgakjeahebaaDoor.P
