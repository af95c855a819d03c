/- A part of a proof that a law's Go function returns true for every input, laid by this session's program mp.py (which drives the kit's print). Conditions: as each theorem states them. -/
import Derived.StillTailTactics
import Derived.Sort.QuietIn
import Derived.Laws.EntriesVeiled
import Derived.Test.YtkidgakjeahebaaDoorCCanonFolds1
import Derived.Test.YtkidgakjeahebaaDoorCCanonFolds2
namespace Go.Proofs.YtkidgakjeahebaaDoor.P
open Go.RowKit Go.Proofs.YtkidgakjeahebaaDoorW.PrintWords Go.Proofs.YtkidgakjeahebaaDoorW.PrintLast Go.Proofs.YtkidgakjeahebaaDoorW.PrintMore
attribute [local go_sem] max2_int min2_int max_two min_two max_three min_three max_four min_four   -- for this text's walks alone
set_option linter.unusedVariables false
set_option linter.unusedSimpArgs false

/-! canon's partners: the first free beat is filled in each way -/
def KeepB (S : Nat) (w w' : World) : Prop := (∀ b, S ≤ b → b < S + 4 → w'.heap[b]? = w.heap[b]?) ∧ w'.heap[1]? = w.heap[1]?
theorem KeepB.refl (S : Nat) (w : World) : KeepB S w w := ⟨fun _ _ _ => rfl, rfl⟩
theorem KeepB.trans {S : Nat} {a b c : World} (h : KeepB S a b) (k : KeepB S b c) : KeepB S a c := ⟨fun i h1 h2 => (k.1 i h1 h2).trans (h.1 i h1 h2), k.2.trans h.2⟩
theorem KeepB.drew (S : Nat) (w : World) (q : Nat) : KeepB S w (w.drewN q) := ⟨fun _ _ _ => rfl, rfl⟩
structure Boxes4 (S n a g : Nat) (lb : Array Value) (w : World) : Prop where
  cn : w.cell? ⟨S, 0, none⟩ = some (.int .i64 (n : Int))
  ca : w.cell? ⟨S + 1, 0, none⟩ = some (.int .i64 (a : Int))
  cm : w.cell? ⟨S + 1 + 1, 0, none⟩ = some (.func (.func g) #[] lb)
  cf : w.cell? ⟨S + 1 + 1 + 1, 0, none⟩ = some (.func (.func 56) #[] #[.pointer (some ⟨S, 0, none⟩), .pointer (some ⟨S + 1 + 1, 0, none⟩), .pointer (some ⟨S + 1, 0, none⟩), .pointer (some ⟨S + 1 + 1 + 1, 0, none⟩)])
theorem Boxes4.keep {S n a g : Nat} {lb : Array Value} {w w' : World} (h : Boxes4 S n a g lb w) (k : KeepB S w w') : Boxes4 S n a g lb w' :=
  ⟨(cell_heap (k.1 _ (by omega) (by omega)) 0).trans h.cn, (cell_heap (k.1 _ (by omega) (by omega)) 0).trans h.ca, (cell_heap (k.1 _ (by omega) (by omega)) 0).trans h.cm, (cell_heap (k.1 _ (by omega) (by omega)) 0).trans h.cf⟩
def took (cont : Bool) (l : List Nat) : List Nat := if cont then l else l.take 1
def FillPost (S : Nat) (J : List Nat → World → Prop) (pre L : List Nat) (cont : Bool) (w : World) (e : Ending) (w' : World) : Prop :=
  e = .returned (.bool (cont || L.isEmpty)) ∧ J (pre ++ took cont L) w' ∧ KeepB S w w'
def visOne (n a d b F x : Nat) : List Nat := match stA n a (freeAt n F) x with
  | some k => if moveN n a k &&& F = 0 then vis n a (stA n a) d (b ||| 2 ^ k) (F ||| moveN n a k) else []
  | none => []
def visTo (n a d b F m : Nat) : List Nat := (List.range m).flatMap (visOne n a d b F)
theorem visTo_succ (n a d b F m : Nat) : visTo n a d b F (m + 1) = visTo n a d b F m ++ visOne n a d b F m := by unfold visTo; rw [List.range_succ]; simp
theorem vis_full {n a d b F : Nat} (h : F = 2 ^ n - 1) : vis n a (stA n a) (d + 1) b F = [b] := by simp only [vis]; rw [if_pos h]
theorem vis_more {n a d b F : Nat} (h : F ≠ 2 ^ n - 1) : vis n a (stA n a) (d + 1) b F = visTo n a d b F n := by simp only [vis]; rw [if_neg h]; rfl
theorem andNot_i64 {n F : Nat} (hn : n ≤ 24) (hF : F < 2 ^ n) : Go.bits .andNot .i64 ((2 ^ n - 1 : Nat) : Int) (F : Int) = (compl n F : Int) := by
  have hp : 2 ^ n ≤ 2 ^ 24 := Nat.pow_le_pow_right (by omega) hn
  have h24 : (2 : Nat) ^ 24 = 16777216 := by decide
  have h0 := Nat.two_pow_pos n
  have hb : IntKind.i64.bits = 64 := rfl
  have h64 : (2 : Nat) ^ 64 = 18446744073709551616 := by decide
  simp only [Go.bits, BitVec.ofInt_natCast, BitVec.toNat_and, BitVec.toNat_not, BitVec.toNat_ofNat, hb]
  rw [Nat.mod_eq_of_lt (show 2 ^ n - 1 < 2 ^ 64 by omega), Nat.mod_eq_of_lt (show F < 2 ^ 64 by omega), h64, compl_and hn hF]
  have := compl_lt n F
  exact i64_id (by omega) (by omega)
section
variable (S n a g : Nat) (lb : Array Value) (cont : Bool) (J : List Nat → World → Prop)
set_option maxHeartbeats 2000000 in
set_option maxRecDepth 100000 in
theorem fill_full (eg : ∀ args w, (callFunc g args).run Tryd.prog w = .ok (.enter g args) w) (hn : 2 ≤ n) (hn2 : n ≤ 24) (b F d : Nat) (pre : List Nat) (w : World) (e : F = 2 ^ n - 1) (hB : Boxes4 S n a g lb w) 
    (hm : ∀ q, Calls Tryd.prog g (#[.int .i64 (b : Int)] ++ lb) (w.drewN q) fun e w' => e = .returned (.bool cont) ∧ J (pre ++ [b]) w' ∧ KeepB S (w.drewN q) w') :
    Calls Tryd.prog 56 #[.int .i64 (b : Int), .int .i64 (F : Int), .pointer (some ⟨S, 0, none⟩), .pointer (some ⟨S + 1 + 1, 0, none⟩), .pointer (some ⟨S + 1, 0, none⟩), .pointer (some ⟨S + 1 + 1 + 1, 0, none⟩)] w
      (FillPost S J pre (vis n a (stA n a) (d + 1) b F) cont w) := by
  rw [vis_full e]
  obtain ⟨cn, ca, cm, cf⟩ := hB
  have HA := Aside0.mk (all_f hn2)
  have heq : ((F : Int) == ((2 ^ n - 1 : Nat) : Int)) = true := by rw [e]; exact beq_self_eq_true _
  have HM := Aside0.mk hm
  clear e hm ca cf
  generalize (2 ^ n - 1 : Nat) = full at HA heq
  go_enter Tryd.func56, Tryd.ntmps56
  go_wp2_with (first | (go_at_call 44; refine (canon_circle_all.calls _ _ _ HA.out).mono ?_; rintro e w' ⟨rfl, ⟨q, rfl⟩⟩) | ((with_reducible refine (HM.out _).mono ?_); rintro e w' ⟨rfl, hj, hk⟩))
  go_ret
  refine ⟨by simp, ?_, KeepB.trans (KeepB.drew S w _) hk⟩
  have : took cont [b] = [b] := by unfold took; cases cont <;> rfl
  rw [this]; exact hj
theorem took_go {cont : Bool} {V L : List Nat} (h : (cont || V.isEmpty) = true) (hc : cont = true ∨ L = []) : took cont V = V ∧ (cont = true ∨ L ++ V = []) := by
  cases cont with
  | true => exact ⟨rfl, .inl rfl⟩
  | false =>
    have hv : V = [] := by simpa using h
    have hl : L = [] := by simpa using hc
    subst hv hl
    exact ⟨rfl, .inr rfl⟩
theorem took_stop {cont : Bool} {V L A O : List Nat} (h : (cont || V.isEmpty) = false) (hc : cont = true ∨ L = []) (hs : ∃ R, A = L ++ O ++ R) (ho : O = V) : (cont || A.isEmpty) = false ∧ L = [] ∧ took cont A = took cont V := by
  obtain ⟨R, hs⟩ := hs
  rw [Bool.or_eq_false_iff] at h
  obtain ⟨h1, h2⟩ := h
  subst h1
  have hl : L = [] := by simpa using hc
  subst hl ho
  cases O with
  | nil => simp at h2
  | cons v V => subst hs; exact ⟨by simp, rfl, by simp [took]⟩
theorem took_all {cont : Bool} {L : List Nat} (hc : cont = true ∨ L = []) : took cont L = L := by
  rcases hc with rfl | rfl
  · rfl
  · cases cont <;> rfl
theorem visTo_split (n a d b F : Nat) {x : Nat} (hx : x < n) : ∃ R, visTo n a d b F n = visTo n a d b F x ++ visOne n a d b F x ++ R := by
  rw [← visTo_succ]
  obtain ⟨r, hr⟩ : ∃ r, n = x + 1 + r := ⟨n - (x + 1), by omega⟩
  have h : ∀ r, ∃ R, visTo n a d b F (x + 1 + r) = visTo n a d b F (x + 1) ++ R := by
    intro r
    induction r with
    | zero => exact ⟨[], by simp⟩
    | succ r ih =>
      obtain ⟨R, hR⟩ := ih
      exact ⟨R ++ visOne n a d b F (x + 1 + r), by rw [← Nat.add_assoc, visTo_succ, hR, List.append_assoc]⟩
  obtain ⟨R, hR⟩ := h r
  exact ⟨R, by rw [← hR, ← hr]⟩
theorem bit_shr {n a x : Nat} (hn : n ≤ 24) (ha : a < 2 ^ n) (hx : x ≤ 64) : ∃ sh : Int, (a : Int) / 2 ^ x = sh ∧ Go.bits .and .i64 sh 1 = if a.testBit x then 1 else 0 := by
  refine ⟨_, rfl, ?_⟩
  have h := bit_r hn ha hx
  unfold shr at h
  rw [Int.toNat_natCast, show min x IntKind.i64.bits = x from Nat.min_eq_left (by show x ≤ 64; omega)] at h
  exact h
theorem round_nums {n a F f x : Nat} (hn2 : n ≤ 24) (ha : a < 2 ^ n) (hF : F < 2 ^ n) (hf : f < n) (hx : x < n) : ((f : Int) - (x : Int) + (n : Int)) % (n : Int) = (((f + (n - x)) % n : Nat) : Int) ∧ Int.tmod ((f : Int) - (x : Int) + (n : Int)) (n : Int) = (((f + (n - x)) % n : Nat) : Int) ∧ ((n : Int) == 0) = false ∧
    canon_circle_move.f (n : Int) (a : Int) (((f + (n - x)) % n : Nat) : Int) = some (moveN n a ((f + (n - x)) % n) : Int) ∧ Go.bits .and .i64 (moveN n a ((f + (n - x)) % n) : Int) (F : Int) = ((moveN n a ((f + (n - x)) % n) &&& F : Nat) : Int) := by
  have hk : (f + (n - x)) % n < n := Nat.mod_lt _ (by omega)
  have e : (f : Int) - (x : Int) + (n : Int) = ((f + (n - x) : Nat) : Int) := by omega
  refine ⟨by rw [e]; omega, ?_, beq_eq_false_iff_ne.2 (by omega), move_f hn2 (by omega) ha, and_r hn2 (moveN_lt n a _) hF⟩
  rw [e, Int.tmod_eq_emod_of_nonneg (by omega)]; omega
theorem next_nums {n b F k m : Nat} (hn2 : n ≤ 24) (hb : b < 2 ^ n) (hF : F < 2 ^ n) (hk : k < n) (hm : m < 2 ^ n) : ∃ p2 b2 F2 : Nat, IntKind.i64.wrap ((2 : Int) ^ k) = (p2 : Int) ∧ wrap64 ((2 : Int) ^ k) = (p2 : Int) ∧ Go.bits .or .i64 (b : Int) (p2 : Int) = (b2 : Int) ∧
    Go.bits .or .i64 (F : Int) (m : Int) = (F2 : Int) ∧ b ||| 2 ^ k = b2 ∧ F ||| m = F2 := by
  have hp : 2 ^ k < 2 ^ n := Nat.pow_lt_pow_right (by omega) hk
  have h24 := pow24 hn2
  refine ⟨2 ^ k, b ||| 2 ^ k, F ||| m, ?_, ?_, or_r hn2 hb hp, or_r hn2 hF hm, rfl, rfl⟩
  · rw [← pow_cast]; generalize 2 ^ k = P at hp ⊢; rw [i64_id (by omega) (by omega)]
  · rw [← pow_cast]; generalize 2 ^ k = P at hp ⊢; rw [wrap_id (by omega) (by omega)]
set_option maxHeartbeats 4000000 in
set_option maxRecDepth 100000 in
theorem fill_free (eg : ∀ args w, (callFunc g args).run Tryd.prog w = .ok (.enter g args) w) (hn : 2 ≤ n) (hn2 : n ≤ 24) (ha : a < 2 ^ n) (b F d : Nat) (pre : List Nat) (w : World) (hP : Part n a b F) (e : F ≠ 2 ^ n - 1) (hB : Boxes4 S n a g lb w) (hT : Tabs w) (hJ : J pre w) (hJd : ∀ s A q, J s A → J s (A.drewN q))
    (ih : ∀ (k : Nat) (pre : List Nat) (w : World), k < n → moveN n a k &&& F = 0 → (moveN n a k).testBit (freeAt n F) = true → Boxes4 S n a g lb w → Tabs w → J pre w → Calls Tryd.prog 56 #[.int .i64 ((b ||| 2 ^ k : Nat) : Int), .int .i64 ((F ||| moveN n a k : Nat) : Int), .pointer (some ⟨S, 0, none⟩), .pointer (some ⟨S + 1 + 1, 0, none⟩), .pointer (some ⟨S + 1, 0, none⟩), .pointer (some ⟨S + 1 + 1 + 1, 0, none⟩)] w
      (FillPost S J pre (vis n a (stA n a) d (b ||| 2 ^ k) (F ||| moveN n a k)) cont w)) :
    Calls Tryd.prog 56 #[.int .i64 (b : Int), .int .i64 (F : Int), .pointer (some ⟨S, 0, none⟩), .pointer (some ⟨S + 1 + 1, 0, none⟩), .pointer (some ⟨S + 1, 0, none⟩), .pointer (some ⟨S + 1 + 1 + 1, 0, none⟩)] w
      (FillPost S J pre (vis n a (stA n a) (d + 1) b F) cont w) := by
  rw [vis_more e]
  obtain ⟨hb, hF, -, -⟩ := hP
  have cn := hB.cn
  obtain ⟨hl1, hl2, hl3, hl4⟩ := free_low hn2 hF e
  have HFS := Aside0.mk (freeAt_spec hF e).1
  have HB := Aside0.mk hB
  have HTB := Aside0.mk hT
  have HA := Aside0.mk (all_f hn2)
  have heq : ((F : Int) == ((2 ^ n - 1 : Nat) : Int)) = false := beq_eq_false_iff_ne.2 (fun h => e (by exact_mod_cast h))
  have hnot := andNot_i64 hn2 hF
  have HTZ := Aside0.mk (fun q => TZ_calls (compl n F) (freeAt n F) hl1 hl2 hl3 hl4 (w.drewN q) (hT.heap rfl))
  have hu : IntKind.u64.wrap (compl n F : Int) = (compl n F : Int) := by
    rw [u64_mod]; have : (2 : Nat) ^ 24 = 16777216 := by decide
    omega
  have HF := Aside0.mk hF
  have HBB := Aside0.mk hb
  have HE := Aside0.mk e
  have HI := Aside0.mk ih
  have HJD := Aside0.mk hJd
  have HJ := Aside0.mk hJ
  have HN := Aside0.mk hn
  have HN2 := Aside0.mk hn2
  have HAA := Aside0.mk ha
  have hn63 : n ≤ 24 := hn2
  clear e hJ hJd ih hF hb hl1 hl2 hl3 hl4 hB hT hn hn2 ha
  generalize hfull : (2 ^ n - 1 : Nat) = full at HA heq hnot
  generalize hcompl : compl n F = cF at hnot HTZ hu
  have HCF := Aside0.mk hcompl
  have HFU := Aside0.mk hfull
  clear hfull hcompl
  go_enter Tryd.func56, Tryd.ntmps56
  go_wp2_with (first | (go_at_call 44; refine (canon_circle_all.calls _ _ _ HA.out).mono ?_; rintro e w' ⟨rfl, ⟨q, rfl⟩⟩) | (go_at_call 57; refine (HTZ.out _).mono ?_; rintro e w' ⟨rfl, rfl⟩))
  obtain ⟨f, hf⟩ : ∃ f, freeAt n F = f := ⟨_, rfl⟩
  rw [hf] at HFS HTZ ⊢
  have HFF := Aside0.mk hf
  clear hf HTZ HA hnot hu heq cn
  go_loopg [27] n (fun gg s27 wr => ∃ x : Nat, s27 = .int .i64 x ∧ Aside0 (x + gg = n) ∧ Aside0 (J (pre ++ visTo n a d b F x) wr) ∧ Aside0 (cont = true ∨ visTo n a d b F x = []) ∧ Aside0 (KeepB S w wr))
  case atStart => exact ⟨0, rfl, ⟨by omega⟩, ⟨by show J (pre ++ []) _; rw [List.append_nil]; exact HJD.out _ _ _ HJ.out⟩, ⟨.inr rfl⟩, ⟨KeepB.drew S w _⟩⟩
  case round =>
    obtain ⟨x, rfl, HX, HJX, HC, HK⟩ := hrel
    by_cases hlt : x < n
    · have hltz : (x : Int) < (n : Int) := by omega
      have cn := (HB.out.keep HK.out).cn
      have ca := (HB.out.keep HK.out).ca
      have cf := (HB.out.keep HK.out).cf
      obtain ⟨sh, hsh, hbit⟩ := bit_shr HN2.out HAA.out (show x ≤ 64 by omega)
      have hx64 : x ≤ 64 := by omega
      have hfn : f < n := HFS.out
      have HS := Aside0.mk (visTo_succ n a d b F x)
      have HO := Aside0.mk (show visOne n a d b F x = match stA n a f x with
        | some k => if moveN n a k &&& F = 0 then vis n a (stA n a) d (b ||| 2 ^ k) (F ||| moveN n a k) else []
        | none => [] by unfold visOne; rw [HFF.out])
      cases hab : a.testBit x with
      | false =>
        rw [hab, if_neg (by decide)] at hbit
        have HO2 := Aside0.mk (show visOne n a d b F x = [] by rw [HO.out]; unfold stA; rw [hab]; rfl)
        clear hab
        go_wp2
        go_roundg (gk - 1)
        case measure => have := HX.out; omega
        case rel =>
          refine ⟨x + 1, by go_num, ⟨by have := HX.out; omega⟩, ⟨?_⟩, ⟨?_⟩, HK⟩
          · rw [HS.out, HO2.out, List.append_nil]; exact HJX.out
          · rw [HS.out, HO2.out, List.append_nil]; exact HC.out
      | true =>
        rw [hab, if_pos rfl] at hbit
        obtain ⟨e1, e2, e3, e4, e5⟩ := round_nums HN2.out HAA.out HF.out HFS.out hlt
        have HO1 := Aside0.mk (show visOne n a d b F x = if moveN n a ((f + (n - x)) % n) &&& F = 0 then vis n a (stA n a) d (b ||| 2 ^ ((f + (n - x)) % n)) (F ||| moveN n a ((f + (n - x)) % n)) else [] by
          rw [HO.out]; unfold stA; rw [hab]; rfl)
        have HMV := Aside0.mk e4
        have hk : (f + (n - x)) % n < n := Nat.mod_lt _ (by omega)
        have HSF := Aside0.mk (show (moveN n a ((f + (n - x)) % n)).testBit (freeAt n F) = true by
          rw [HFF.out]; exact ((stepOk_A HAA.out).1 f x _ HFS.out hlt (by unfold stA; rw [hab]; rfl)).2)
        clear hab e4
        generalize hkk : (f + (n - x)) % n = k at *
        generalize hmm : moveN n a k = m at *
        have HMM := Aside0.mk hmm
        have hm0 : (0 : Int) ≤ (k : Int) := by omega
        clear hkk hmm
        have hk64 : k ≤ 64 := by omega
        by_cases hz : m &&& F = 0
        · have e6 : (((m &&& F : Nat) : Int) == 0) = true := by rw [hz]; rfl
          have HO2 := Aside0.mk (show visOne n a d b F x = vis n a (stA n a) d (b ||| 2 ^ k) (F ||| m) by rw [HO1.out, if_pos hz])
          have HK2 := Aside0.mk hk
          obtain ⟨p2, b2, F2, r1, r2, r3, r4, hb2, hF2⟩ := next_nums HN2.out HBB.out HF.out hk (HMM.out ▸ moveN_lt n a k)
          have hz' := Aside0.mk hz
          rw [hb2, hF2] at HO2
          have HCALL : ∀ q, Calls Tryd.prog 56 #[.int .i64 (b2 : Int), .int .i64 (F2 : Int), .pointer (some ⟨S, 0, none⟩), .pointer (some ⟨S + 1 + 1, 0, none⟩), .pointer (some ⟨S + 1, 0, none⟩), .pointer (some ⟨S + 1 + 1 + 1, 0, none⟩)] (wr.drewN q)
            (FillPost S J (pre ++ visTo n a d b F x) (vis n a (stA n a) d b2 F2) cont (wr.drewN q)) := fun q => by
            have := HI.out k (pre ++ visTo n a d b F x) (wr.drewN q) hk (by rw [HMM.out]; exact hz'.out) (by rw [HMM.out]; exact HSF.out) ((HB.out.keep HK.out).keep (KeepB.drew S wr q)) (HTB.out.heap (HK.out.2.trans rfl)) (HJD.out _ _ _ HJX.out)
            rw [HMM.out, hb2, hF2] at this
            exact this
          have HCALL := Aside0.mk HCALL
          clear hz hz' hb2 hF2 hk
          generalize vis n a (stA n a) d b2 F2 = V at HCALL HO2
          cases hc : (cont || V.isEmpty) with
          | true =>
            have HCQ := Aside0.mk (fun q1 => show Calls Tryd.prog 56 #[.int .i64 (b2 : Int), .int .i64 (F2 : Int), .pointer (some ⟨S, 0, none⟩), .pointer (some ⟨S + 1 + 1, 0, none⟩), .pointer (some ⟨S + 1, 0, none⟩), .pointer (some ⟨S + 1 + 1 + 1, 0, none⟩)] (wr.drewN q1).drew fun e w' => e = .returned (.bool true) ∧ J (pre ++ visTo n a d b F x ++ took cont V) w' ∧ KeepB S w w' from by
              rw [show (wr.drewN q1).drew = wr.drewN (q1 + 1) from rfl]
              exact (HCALL.out _).mono fun e w' h => ⟨h.1.trans (by rw [hc]), h.2.1, HK.out.trans ((KeepB.drew S wr _).trans h.2.2)⟩)
            have hfin := Aside0.mk (took_go hc HC.out)
            clear hc HCALL
            go_wp2_with (go_at_call 42; (with_reducible refine (canon_circle_move.calls _ _ _ _ _ HMV.out).mono ?_); rintro e w' ⟨rfl, ⟨q, rfl⟩⟩)
            have cfq : (wr.drewN q).cell? ⟨S + 1 + 1 + 1, 0, none⟩ = some (.func (.func 56) #[] #[.pointer (some ⟨S, 0, none⟩), .pointer (some ⟨S + 1 + 1, 0, none⟩), .pointer (some ⟨S + 1, 0, none⟩), .pointer (some ⟨S + 1 + 1 + 1, 0, none⟩)]) := cf
            have HCR := Aside0.mk (HCQ.out q)
            generalize wr.drewN q = Wq at cfq HCR ⊢
            clear cn ca cf HCQ
            go_still_tail 13, (by kernel_rfl)
            go_wp2_with ((with_reducible refine HCR.out.mono ?_); rintro e w' ⟨rfl, hj, hk2⟩)
            go_roundg (gk - 1)
            case measure => have := HX.out; omega
            case rel =>
              refine ⟨x + 1, by go_num, ⟨by have := HX.out; omega⟩, ⟨?_⟩, ⟨?_⟩, ⟨hk2⟩⟩
              · rw [HS.out, HO2.out, ← List.append_assoc]; rw [hfin.out.1] at hj; exact hj
              · rw [HS.out, HO2.out]; exact hfin.out.2
          | false =>
            have HCQ := Aside0.mk (fun q1 => show Calls Tryd.prog 56 #[.int .i64 (b2 : Int), .int .i64 (F2 : Int), .pointer (some ⟨S, 0, none⟩), .pointer (some ⟨S + 1 + 1, 0, none⟩), .pointer (some ⟨S + 1, 0, none⟩), .pointer (some ⟨S + 1 + 1 + 1, 0, none⟩)] (wr.drewN q1).drew fun e w' => e = .returned (.bool false) ∧ J (pre ++ visTo n a d b F x ++ took cont V) w' ∧ KeepB S w w' from by
              rw [show (wr.drewN q1).drew = wr.drewN (q1 + 1) from rfl]
              exact (HCALL.out _).mono fun e w' h => ⟨h.1.trans (by rw [hc]), h.2.1, HK.out.trans ((KeepB.drew S wr _).trans h.2.2)⟩)
            have hfin := Aside0.mk (took_stop hc HC.out (visTo_split n a d b F hlt) HO2.out)
            clear hc HCALL
            go_wp2_with (go_at_call 42; (with_reducible refine (canon_circle_move.calls _ _ _ _ _ HMV.out).mono ?_); rintro e w' ⟨rfl, ⟨q, rfl⟩⟩)
            have cfq : (wr.drewN q).cell? ⟨S + 1 + 1 + 1, 0, none⟩ = some (.func (.func 56) #[] #[.pointer (some ⟨S, 0, none⟩), .pointer (some ⟨S + 1 + 1, 0, none⟩), .pointer (some ⟨S + 1, 0, none⟩), .pointer (some ⟨S + 1 + 1 + 1, 0, none⟩)]) := cf
            have HCR := Aside0.mk (HCQ.out q)
            generalize wr.drewN q = Wq at cfq HCR ⊢
            clear cn ca cf HCQ
            go_still_tail 13, (by kernel_rfl)
            go_wp2_with ((with_reducible refine HCR.out.mono ?_); rintro e w' ⟨rfl, hj, hk2⟩)
            go_ret
            refine ⟨by rw [hfin.out.1]; rfl, ?_, hk2⟩
            rw [hfin.out.2.1, List.append_nil] at hj
            rw [hfin.out.2.2]; exact hj
        · have e6 : (((m &&& F : Nat) : Int) == 0) = false := beq_eq_false_iff_ne.2 (by omega)
          have HO2 := Aside0.mk (show visOne n a d b F x = [] by rw [HO1.out, if_neg hz])
          clear hz
          go_wp2_with (go_at_call 42; (with_reducible refine (canon_circle_move.calls _ _ _ _ _ HMV.out).mono ?_); rintro e w' ⟨rfl, ⟨q, rfl⟩⟩)
          go_quiet (fail)
          go_wp2
          go_roundg (gk - 1)
          case measure => have := HX.out; omega
          case rel =>
            refine ⟨x + 1, by go_num, ⟨by have := HX.out; omega⟩, ⟨?_⟩, ⟨?_⟩, ⟨HK.out.trans (KeepB.drew S wr _)⟩⟩
            · rw [HS.out, HO2.out, List.append_nil]; exact HJD.out _ _ _ HJX.out
            · rw [HS.out, HO2.out, List.append_nil]; exact HC.out
    · have hxn : x = n := by have := HX.out; omega
      have HXN := Aside0.mk hxn
      clear hxn
      have hltz : ¬ (x : Int) < (n : Int) := by omega
      go_wp2
      go_ret
      have hj := HJX.out
      have hc := HC.out
      rw [HXN.out] at hj hc
      refine ⟨?_, ?_, HK.out⟩
      · rcases hc with hc | hc <;> simp [hc]
      · rw [took_all hc]; exact hj
theorem fill_calls (eg : ∀ args w, (callFunc g args).run Tryd.prog w = .ok (.enter g args) w) (hn : 2 ≤ n) (hn2 : n ≤ 24) (ha : a < 2 ^ n) (h0 : a.testBit 0 = true) (hJd : ∀ s A q, J s A → J s (A.drewN q))
    (hm : ∀ (pre : List Nat) (b : Nat) (W : World), J pre W → b < 2 ^ n → Calls Tryd.prog g (#[.int .i64 (b : Int)] ++ lb) W fun e w' => e = .returned (.bool cont) ∧ J (pre ++ [b]) w' ∧ KeepB S W w') :
    ∀ (d b F : Nat) (pre : List Nat) (w : World), Part n a b F → cnt n (fun i => !F.testBit i) < d → Boxes4 S n a g lb w → Tabs w → J pre w →
    Calls Tryd.prog 56 #[.int .i64 (b : Int), .int .i64 (F : Int), .pointer (some ⟨S, 0, none⟩), .pointer (some ⟨S + 1 + 1, 0, none⟩), .pointer (some ⟨S + 1, 0, none⟩), .pointer (some ⟨S + 1 + 1 + 1, 0, none⟩)] w
      (FillPost S J pre (vis n a (stA n a) d b F) cont w) := by
  intro d
  induction d with
  | zero => intro b F pre w _ hd; omega
  | succ d ih =>
    intro b F pre w hP hd hB hT hJ
    by_cases e : F = 2 ^ n - 1
    · exact fill_full S n a g lb cont J eg hn hn2 b F d pre w e hB (fun q => hm pre b _ (hJd _ _ _ hJ) hP.1)
    · obtain ⟨hf, hf0, _⟩ := freeAt_spec hP.2.1 e
      refine fill_free S n a g lb cont J eg hn hn2 ha b F d pre w hP e hB hT hJ hJd (fun k pre w hk hz hsf hB hT hJ => ?_)
      refine ih _ _ pre w (hP.add hk hz) ?_ hB hT hJ
      have := cnt_lt_of (p := fun i => !(F ||| moveN n a k).testBit i) (q := fun i => !F.testBit i) n (fun i _ hp => by
            rw [Nat.testBit_or] at hp; cases hq : F.testBit i <;> simp_all) (freeAt n F) hf (by rw [Nat.testBit_or, hsf]; simp) (by rw [hf0]; rfl)
      omega
set_option maxHeartbeats 2000000 in
theorem partners_calls (eg : ∀ args w, (callFunc g args).run Tryd.prog w = .ok (.enter g args) w) (hn : 2 ≤ n) (hn2 : n ≤ 24) (ha : a < 2 ^ n) (h0 : a.testBit 0 = true) (w : World) (hT : Tabs w) (hS : S = w.heap.size) (hJd : ∀ s A q, J s A → J s (A.drewN q))
    (hJ : ∀ W, Below S w W → J [] W)
    (hm : ∀ (pre : List Nat) (b : Nat) (W : World), J pre W → b < 2 ^ n → Calls Tryd.prog g (#[.int .i64 (b : Int)] ++ lb) W fun e w' => e = .returned (.bool cont) ∧ J (pre ++ [b]) w' ∧ KeepB S W w') :
    Calls Tryd.prog 30 #[.int .i64 (n : Int), .int .i64 (a : Int), .func (.func g) #[] lb] w fun e w' => (∃ v, e = .returned v) ∧ J (took cont (vis n a (stA n a) (n + 1) 1 a)) w' := by
  have HC := Aside0.mk (fill_calls S n a g lb cont J eg hn hn2 ha h0 hJd hm)
  have HJ := Aside0.mk hJ
  have HT := Aside0.mk hT
  have HP := Aside0.mk (Part.start (show 1 ≤ n by omega) ha)
  have HS := Aside0.mk hS
  have hmf : ∀ (fn : Fn) (first cap : Array Value) (w : World), (Instr.makeFunc fn first cap).run Tryd.prog w = .ok (.func fn first cap) w := fun _ _ _ _ => rfl
  clear hJ hT hm hJd hS hn hn2 ha h0
  go_enter Tryd.func30, Tryd.ntmps30
  go_wp2_with fail
  obtain ⟨W0, hW0⟩ : ∃ W0, (((w.alloc (.cells #[.int .i64 (n : Int)] 47)).alloc (.cells #[.int .i64 (a : Int)] 3)).alloc (.cells #[.func (.func g) #[] lb] 50)).alloc (.cells #[.func (.func 56) #[] #[.pointer (some ⟨w.heap.size, 0, none⟩), .pointer (some ⟨w.heap.size + 1 + 1, 0, none⟩), .pointer (some ⟨w.heap.size + 1, 0, none⟩), .pointer (some ⟨w.heap.size + 1 + 1 + 1, 0, none⟩)]] 25) = W0 := ⟨_, rfl⟩
  obtain ⟨c0, c1, c2, c3, -, -, -, B0⟩ := four_new w _ _ _ _ _ _ _ _ S HS.out W0 hW0
  rw [hW0, ← HS.out]
  rw [← HS.out] at c3
  have hrun := HC.out (n + 1) 1 a [] W0 HP.out start_cnt ⟨c0, c1, c2, c3⟩ (HT.out.below (HS.out ▸ B0)) (HJ.out W0 B0)
  clear hW0 c0 c1 c2 c3 B0 HJ HC
  refine hrun.mono ?_
  rintro e w' ⟨rfl, hj, hk⟩
  generalize (cont || (vis n a (stA n a) (n + 1) 1 a).isEmpty) = bb
  go_wp2
  go_end0
  exact ⟨⟨_, rfl⟩, hj⟩
end

end Go.Proofs.YtkidgakjeahebaaDoor.P
namespace Go.Proofs.YtkidgakjeahebaaDoor.P
open Go.RowKit Go.Proofs.YtkidgakjeahebaaDoorW.PrintWords Go.Proofs.YtkidgakjeahebaaDoorW.PrintLast Go.Proofs.YtkidgakjeahebaaDoorW.PrintMore
attribute [local go_sem] max2_int min2_int max_two min_two max_three min_three max_four min_four   -- for this text's walks alone
set_option linter.unusedVariables false
set_option linter.unusedSimpArgs false

/-! canon.Partner and canon.Partners: the least of all partners, and how many there are -/
def PL (n a : Nat) : List Nat := vis n a (stA n a) (n + 1) 1 a
def minStep (m b : Nat) : Nat := if m = 0 ∨ b < m then b else m
def minB (l : List Nat) : Nat := l.foldl minStep 0
def minI (l : List Nat) : Int := ((minB l : Nat) : Int)
def lenI (l : List Nat) : Int := wrap64 ((l.length : Nat) : Int)
def canon_Partners.f (a0 a1 : Int) : Option (Int × Int) := if ValidR a0 a1 then some (lenI (PL a0.toNat a1.toNat), 0) else some (0, 2)
def canon_Partner.f (a0 a1 : Int) : Option (Int × Int) := if ValidR a0 a1 then (if minI (PL a0.toNat a1.toNat) = 0 then some (0, 4) else some (minI (PL a0.toNat a1.toNat), 0)) else some (0, 2)
theorem minB_snoc (l : List Nat) (b : Nat) : minB (l ++ [b]) = minStep (minB l) b := by unfold minB; rw [List.foldl_append]; rfl
theorem lenI_nil : lenI [] = 0 := by unfold lenI wrap64; decide
theorem minI_nil : minI [] = 0 := rfl
theorem lenI_snoc (l : List Nat) (b : Nat) : lenI (l ++ [b]) = wrap64 (lenI l + 1) := by
  unfold lenI
  rw [List.length_append, List.length_singleton]
  unfold wrap64
  omega
def StepsOut (f : List Nat → Int) (g : Nat) : Prop := ∀ (pre : List Nat) (b : Nat) (W : World) (B : Nat), W.cell? ⟨B, 0, none⟩ = some (.int .i64 (f pre)) → W.frozen? ⟨B, 0, none⟩ = false →
  Calls Tryd.prog g #[.int .i64 (b : Int), .pointer (some ⟨B, 0, none⟩)] W fun e w' => e = .returned (.bool true) ∧ ((w' = W.setCell ⟨B, 0, none⟩ (.int .i64 (f (pre ++ [b])))) ∨ (w' = W ∧ f (pre ++ [b]) = f pre))
theorem partners_more : StepsOut lenI 32 := by
  intro pre b W B hc hf
  have HL := Aside0.mk (lenI_snoc pre b)
  generalize lenI pre = c at hc HL
  obtain ⟨d, hd⟩ : ∃ d, wrap64 (c + 1) = d := ⟨_, rfl⟩
  have hd2 : IntKind.i64.wrap (c + 1) = d := (i64_w _).trans hd
  rw [hd] at HL
  go_enter Tryd.func32, Tryd.ntmps32
  go_wp2
  go_ret
  refine ⟨rfl, .inl ?_⟩
  rw [HL.out]
theorem partner_more : StepsOut minI 31 := by
  intro pre b W B hc hf
  have HL := Aside0.mk (show minI (pre ++ [b]) = ((minStep (minB pre) b : Nat) : Int) by unfold minI; rw [minB_snoc])
  have HM := Aside0.mk (show minI pre = ((minB pre : Nat) : Int) from rfl)
  rw [HM.out] at hc
  generalize hm : minB pre = m at hc HL HM
  clear hm
  by_cases hz : m = 0
  · have e1 : ((m : Int) == 0) = true := by rw [hz]; rfl
    have HL2 := Aside0.mk (show minI (pre ++ [b]) = (b : Int) by rw [HL.out]; unfold minStep; rw [if_pos (.inl hz)])
    clear hz HL
    go_enter Tryd.func31, Tryd.ntmps31
    go_wp2
    go_ret
    refine ⟨rfl, .inl ?_⟩
    rw [HL2.out]
  · have e1 : ((m : Int) == 0) = false := beq_eq_false_iff_ne.2 (by omega)
    by_cases hl : b < m
    · have e2 : decide ((b : Int) < (m : Int)) = true := decide_eq_true (by omega)
      have e3 : decide (b < m) = true := decide_eq_true hl
      have HL2 := Aside0.mk (show minI (pre ++ [b]) = (b : Int) by rw [HL.out]; unfold minStep; rw [if_pos (.inr hl)])
      clear hz HL hl
      go_enter Tryd.func31, Tryd.ntmps31
      go_wp2
      go_ret
      refine ⟨rfl, .inl ?_⟩
      rw [HL2.out]
    · have e2 : decide ((b : Int) < (m : Int)) = false := decide_eq_false (by omega)
      have e3 : decide (b < m) = false := decide_eq_false hl
      have HL2 := Aside0.mk (show minI (pre ++ [b]) = minI pre by rw [HL.out, HM.out]; unfold minStep; rw [if_neg (fun h => h.elim hz hl)])
      clear hz HL hl
      go_enter Tryd.func31, Tryd.ntmps31
      go_wp2
      go_ret
      exact ⟨rfl, .inr ⟨rfl, HL2.out⟩⟩
theorem out_run (f : List Nat → Int) (g : Nat) (hg : StepsOut f g) (eg : ∀ args w, (callFunc g args).run Tryd.prog w = .ok (.enter g args) w) (hf0 : f [] = 0) {a0 a1 : Int} (hc : ValidR a0 a1) (w : World) (hT : Tabs w) (w2 : World) (hb : Below w.heap.size w w2) :
    Calls Tryd.prog 30 #[.int .i64 a0, .int .i64 a1, .func (.func g) #[] #[.pointer (some ⟨w2.heap.size, 0, none⟩)]] (w2.alloc (.cells #[.int .i64 0] 3)) fun e w' => (∃ v, e = .returned v) ∧
      w'.cell? ⟨w2.heap.size, 0, none⟩ = some (.int .i64 (f (PL a0.toNat a1.toNat))) ∧ Below w.heap.size w w' := by
  obtain ⟨n, a, rfl, rfl, hn, hn2, ha, h0⟩ := validR_nat hc
  obtain ⟨B, hB⟩ : ∃ B, B = w2.heap.size := ⟨_, rfl⟩
  rw [← hB]
  have hB1 : 1 < B := by rw [hB]; exact Nat.lt_of_lt_of_le hT.size hb.size
  have hwB : w.heap.size ≤ B := by rw [hB]; exact hb.size
  have hnew := new_cell w2 (.int .i64 0) 3
  rw [← hB] at hnew
  have hsz : (w2.alloc (.cells #[.int .i64 0] 3)).heap.size = B + 1 := by rw [World.size_alloc, ← hB]
  have hbw : Below w.heap.size w (w2.alloc (.cells #[.int .i64 0] 3)) := below_alloc hb _
  refine (partners_calls (B + 1) n a g #[.pointer (some ⟨B, 0, none⟩)] true (fun pre W => W.cell? ⟨B, 0, none⟩ = some (.int .i64 (f pre)) ∧ W.frozen? ⟨B, 0, none⟩ = false ∧ Below w.heap.size w W) eg hn hn2 ha h0 _ (hT.below hbw) hsz.symm ?_ ?_ ?_).mono ?_
  · rintro s A q ⟨h1, h2, h3⟩
    exact ⟨h1, h2, pw_below_drewN h3 q⟩
  · intro W hW
    refine ⟨?_, ?_, hbw.trans (hW.mono (by omega))⟩
    · rw [hf0]; exact (hW.cell (p := ⟨B, 0, none⟩) (by simp)).trans hnew.1
    · exact (hW.frozen (p := ⟨B, 0, none⟩) (by simp)).trans hnew.2
  · rintro pre b W ⟨h1, h2, h3⟩ _
    refine (hg pre b W B h1 h2).mono ?_
    rintro e w' ⟨rfl, (rfl | ⟨rfl, h⟩)⟩
    · refine ⟨rfl, ⟨World.cell?_setCell_same' _ _ _ (by rw [h1]; rfl), by rw [World.frozen?_setCell]; exact h2, h3.setCell (p := ⟨B, 0, none⟩) hwB _⟩, fun i hi _ => Below.heap_setCell W ⟨B, 0, none⟩ _ i (by simp only [ne_eq]; omega), Below.heap_setCell W ⟨B, 0, none⟩ _ 1 (by simp only [ne_eq]; omega)⟩
    · exact ⟨rfl, ⟨by rw [h]; exact h1, h2, h3⟩, KeepB.refl _ _⟩
  · rintro e w' ⟨hv, h1, h2, h3⟩
    exact ⟨hv, h1, h3⟩
set_option maxHeartbeats 4000000 in
set_option maxRecDepth 100000 in
theorem canon_Partners.calls (a0 a1 r1 r2 : Int) (w : World) (hT : Tabs w) (h : canon_Partners.f a0 a1 = some (r1, r2)) :
    Calls Tryd.prog 13 #[.int .i64 a0, .int .i64 a1] w fun e w' => e = .returned (.tuple #[.int .i64 r1, .int .i64 r2]) ∧ Below w.heap.size w w' := by
  have HB := Aside0.mk (Below.refl w.heap.size w)
  have HT := Aside0.mk hT
  unfold canon_Partners.f at h
  have hv := valid1_f a0 a1
  obtain ⟨y, hy⟩ : ∃ y : List Int, y = [a1] := ⟨_, rfl⟩
  rw [← hy] at hv
  have HY := Aside0.mk hy
  clear hy hT
  have hmf : ∀ (fn : Fn) (first cap : Array Value) (w : World), (Instr.makeFunc fn first cap).run Tryd.prog w = .ok (.func fn first cap) w := fun _ _ _ _ => rfl
  by_cases hc : ValidR a0 a1
  · rw [decide_eq_true hc] at hv
    rw [if_pos hc] at h
    have HV := Aside0.mk hv
    have HRUN := Aside0.mk (fun (w2 : World) (hb2 : Below w.heap.size w w2) => out_run lenI 32 partners_more (enters_of Tryd.func32 (by kernel_rfl) rfl) lenI_nil hc w HT.out w2 hb2)
    obtain ⟨v, hv2⟩ : ∃ v, lenI (PL a0.toNat a1.toNat) = v := ⟨_, rfl⟩
    rw [hv2] at h HRUN
    simp only [Option.some.injEq, Prod.mk.injEq] at h
    obtain ⟨rfl, rfl⟩ := h
    clear hv hc hv2
    go_enter Tryd.func13, Tryd.ntmps13
    go_wp2_with (first | ((with_reducible refine gate_dst (N := 9) rfl ?_); refine Kd.R_lit (Kd.int .i64) _ 3 ?hg (N := 9) ?hd (xs := ([a1] : List Int)) (inner := [.int .i64 a1]) (ok := fun _ => True) (okp := fun _ => True) ?hr ?hp (fun _ hk => hk) trivial (Below.refl _ _) (Nat.le_refl _) (by simp) ?_; (case hd => rfl); (case hg => rfl); (case hr => first | (go_simp; done) | (go_simp; rfl)); (case hp => exact (Reps.one (show Kd.M (Kd.int .i64) _ _ _ a1 [.int .i64 a1] from rfl) (Reps.none _ _))); intro v1002 w7 ho8 hb hg_ hnew_; clear hg_ hnew_; rw [← HY.out] at ho8; have n0_ := Aside0.mk (Kd.R_lower ho8 (below_size (by repeat (first | (with_reducible first | exact HB.out | apply below_alloc | apply pw_below_drewN | apply below_drew1) | exact HB.out)))); have n1_ := Aside0.mk (below_step (by repeat (first | (with_reducible first | exact HB.out | apply below_alloc | apply pw_below_drewN | apply below_drew1) | exact HB.out)) hb); clear HB; have HO := n0_; have HB := n1_; clear n0_ n1_; clear hb ho8; obtain ⟨Ao9, co9, eo9⟩ := Kd.R_slice HO.out; subst eo9) | ((with_reducible refine gate_callee (f := 28) rfl ?_); refine goesL_ (some 10) rfl rfl Tryd.func28 (by kernel_rfl) rfl #[.int .i64 a0, .slice Ao9 y.length co9] rfl (by (try simp only [List.map_toArray, List.map_cons, List.map_nil]); first | done | rfl) ?_; (with_reducible refine (canon_circle_valid.calls a0 _ _ y true _ ?side1 ?side2 HV.out).mono ?_); (case side1 => repeat (first | exact (Kd.R_reads' HO.out).2.2 | (with_reducible refine Kd.C_alloc ?_ _) | (with_reducible refine Kd.C_drewN ?_ _) | (with_reducible refine Kd.C_drew ?_))); (case side2 => exact (Kd.R_reads' HO.out).2.1); rintro e w10 ⟨rfl, hb⟩; refine ⟨_, rfl, ?_⟩; have n0_ := Aside0.mk (below_step (by repeat (first | (with_reducible first | exact HB.out | apply below_alloc | apply pw_below_drewN | apply below_drew1) | exact HB.out)) hb); clear HB HO; have HB := n0_; clear n0_ hb))
    refine (HRUN.out _ HB.out).mono ?_
    rintro e w12 ⟨⟨rv, rfl⟩, hcell, hb⟩
    clear HB
    have HB := Aside0.mk hb
    clear hb
    go_wp2
    go_ret2
    exact ⟨by first | rfl | simp, HB.out⟩
  · rw [decide_eq_false hc] at hv
    rw [if_neg hc] at h
    have HV := Aside0.mk hv
    simp only [Option.some.injEq, Prod.mk.injEq] at h
    obtain ⟨rfl, rfl⟩ := h
    clear hv hc
    go_enter Tryd.func13, Tryd.ntmps13
    go_wp2_with (first | ((with_reducible refine gate_dst (N := 9) rfl ?_); refine Kd.R_lit (Kd.int .i64) _ 3 ?hg (N := 9) ?hd (xs := ([a1] : List Int)) (inner := [.int .i64 a1]) (ok := fun _ => True) (okp := fun _ => True) ?hr ?hp (fun _ hk => hk) trivial (Below.refl _ _) (Nat.le_refl _) (by simp) ?_; (case hd => rfl); (case hg => rfl); (case hr => first | (go_simp; done) | (go_simp; rfl)); (case hp => exact (Reps.one (show Kd.M (Kd.int .i64) _ _ _ a1 [.int .i64 a1] from rfl) (Reps.none _ _))); intro v1002 w7 ho8 hb hg_ hnew_; clear hg_ hnew_; rw [← HY.out] at ho8; have n0_ := Aside0.mk (Kd.R_lower ho8 (below_size (by repeat (first | (with_reducible first | exact HB.out | apply below_alloc | apply pw_below_drewN | apply below_drew1) | exact HB.out)))); have n1_ := Aside0.mk (below_step (by repeat (first | (with_reducible first | exact HB.out | apply below_alloc | apply pw_below_drewN | apply below_drew1) | exact HB.out)) hb); clear HB; have HO := n0_; have HB := n1_; clear n0_ n1_; clear hb ho8; obtain ⟨Ao9, co9, eo9⟩ := Kd.R_slice HO.out; subst eo9) | ((with_reducible refine gate_callee (f := 28) rfl ?_); refine goesL_ (some 10) rfl rfl Tryd.func28 (by kernel_rfl) rfl #[.int .i64 a0, .slice Ao9 y.length co9] rfl (by (try simp only [List.map_toArray, List.map_cons, List.map_nil]); first | done | rfl) ?_; (with_reducible refine (canon_circle_valid.calls a0 _ _ y false _ ?side1 ?side2 HV.out).mono ?_); (case side1 => repeat (first | exact (Kd.R_reads' HO.out).2.2 | (with_reducible refine Kd.C_alloc ?_ _) | (with_reducible refine Kd.C_drewN ?_ _) | (with_reducible refine Kd.C_drew ?_))); (case side2 => exact (Kd.R_reads' HO.out).2.1); rintro e w10 ⟨rfl, hb⟩; refine ⟨_, rfl, ?_⟩; have n0_ := Aside0.mk (below_step (by repeat (first | (with_reducible first | exact HB.out | apply below_alloc | apply pw_below_drewN | apply below_drew1) | exact HB.out)) hb); clear HB HO; have HB := n0_; clear n0_ hb))
    go_ret2
    exact ⟨by first | rfl | simp, (by repeat (first | (with_reducible first | exact HB.out | apply below_alloc | apply pw_below_drewN | apply below_drew1) | exact HB.out))⟩

set_option maxHeartbeats 4000000 in
set_option maxRecDepth 100000 in
theorem canon_Partner.calls (a0 a1 r1 r2 : Int) (w : World) (hT : Tabs w) (h : canon_Partner.f a0 a1 = some (r1, r2)) :
    Calls Tryd.prog 12 #[.int .i64 a0, .int .i64 a1] w fun e w' => e = .returned (.tuple #[.int .i64 r1, .int .i64 r2]) ∧ Below w.heap.size w w' := by
  have HB := Aside0.mk (Below.refl w.heap.size w)
  have HT := Aside0.mk hT
  unfold canon_Partner.f at h
  have hv := valid1_f a0 a1
  obtain ⟨y, hy⟩ : ∃ y : List Int, y = [a1] := ⟨_, rfl⟩
  rw [← hy] at hv
  have HY := Aside0.mk hy
  clear hy hT
  have hmf : ∀ (fn : Fn) (first cap : Array Value) (w : World), (Instr.makeFunc fn first cap).run Tryd.prog w = .ok (.func fn first cap) w := fun _ _ _ _ => rfl
  by_cases hc : ValidR a0 a1
  · rw [decide_eq_true hc] at hv
    rw [if_pos hc] at h
    have HV := Aside0.mk hv
    have HRUN := Aside0.mk (fun (w2 : World) (hb2 : Below w.heap.size w w2) => out_run minI 31 partner_more (enters_of Tryd.func31 (by kernel_rfl) rfl) minI_nil hc w HT.out w2 hb2)
    obtain ⟨v, hv2⟩ : ∃ v, minI (PL a0.toNat a1.toNat) = v := ⟨_, rfl⟩
    rw [hv2] at h HRUN
    clear hv hc hv2
    by_cases hz : v = 0
    · rw [if_pos hz] at h
      simp only [Option.some.injEq, Prod.mk.injEq] at h
      obtain ⟨rfl, rfl⟩ := h
      have hz2 : (v == 0) = true := by rw [hz]; rfl
      clear hz
      go_enter Tryd.func12, Tryd.ntmps12
      go_wp2_with (first | ((with_reducible refine gate_dst (N := 9) rfl ?_); refine Kd.R_lit (Kd.int .i64) _ 3 ?hg (N := 9) ?hd (xs := ([a1] : List Int)) (inner := [.int .i64 a1]) (ok := fun _ => True) (okp := fun _ => True) ?hr ?hp (fun _ hk => hk) trivial (Below.refl _ _) (Nat.le_refl _) (by simp) ?_; (case hd => rfl); (case hg => rfl); (case hr => first | (go_simp; done) | (go_simp; rfl)); (case hp => exact (Reps.one (show Kd.M (Kd.int .i64) _ _ _ a1 [.int .i64 a1] from rfl) (Reps.none _ _))); intro v1002 w7 ho8 hb hg_ hnew_; clear hg_ hnew_; rw [← HY.out] at ho8; have n0_ := Aside0.mk (Kd.R_lower ho8 (below_size (by repeat (first | (with_reducible first | exact HB.out | apply below_alloc | apply pw_below_drewN | apply below_drew1) | exact HB.out)))); have n1_ := Aside0.mk (below_step (by repeat (first | (with_reducible first | exact HB.out | apply below_alloc | apply pw_below_drewN | apply below_drew1) | exact HB.out)) hb); clear HB; have HO := n0_; have HB := n1_; clear n0_ n1_; clear hb ho8; obtain ⟨Ao9, co9, eo9⟩ := Kd.R_slice HO.out; subst eo9) | ((with_reducible refine gate_callee (f := 28) rfl ?_); refine goesL_ (some 10) rfl rfl Tryd.func28 (by kernel_rfl) rfl #[.int .i64 a0, .slice Ao9 y.length co9] rfl (by (try simp only [List.map_toArray, List.map_cons, List.map_nil]); first | done | rfl) ?_; (with_reducible refine (canon_circle_valid.calls a0 _ _ y true _ ?side1 ?side2 HV.out).mono ?_); (case side1 => repeat (first | exact (Kd.R_reads' HO.out).2.2 | (with_reducible refine Kd.C_alloc ?_ _) | (with_reducible refine Kd.C_drewN ?_ _) | (with_reducible refine Kd.C_drew ?_))); (case side2 => exact (Kd.R_reads' HO.out).2.1); rintro e w10 ⟨rfl, hb⟩; refine ⟨_, rfl, ?_⟩; have n0_ := Aside0.mk (below_step (by repeat (first | (with_reducible first | exact HB.out | apply below_alloc | apply pw_below_drewN | apply below_drew1) | exact HB.out)) hb); clear HB HO; have HB := n0_; clear n0_ hb))
      refine (HRUN.out _ HB.out).mono ?_
      rintro e w12 ⟨⟨rv, rfl⟩, hcell, hb⟩
      clear HB
      have HB := Aside0.mk hb
      clear hb
      go_wp2
      go_ret2
      exact ⟨by first | rfl | simp, HB.out⟩
    · rw [if_neg hz] at h
      simp only [Option.some.injEq, Prod.mk.injEq] at h
      obtain ⟨rfl, rfl⟩ := h
      have hz2 : (v == 0) = false := beq_eq_false_iff_ne.2 hz
      clear hz
      go_enter Tryd.func12, Tryd.ntmps12
      go_wp2_with (first | ((with_reducible refine gate_dst (N := 9) rfl ?_); refine Kd.R_lit (Kd.int .i64) _ 3 ?hg (N := 9) ?hd (xs := ([a1] : List Int)) (inner := [.int .i64 a1]) (ok := fun _ => True) (okp := fun _ => True) ?hr ?hp (fun _ hk => hk) trivial (Below.refl _ _) (Nat.le_refl _) (by simp) ?_; (case hd => rfl); (case hg => rfl); (case hr => first | (go_simp; done) | (go_simp; rfl)); (case hp => exact (Reps.one (show Kd.M (Kd.int .i64) _ _ _ a1 [.int .i64 a1] from rfl) (Reps.none _ _))); intro v1002 w7 ho8 hb hg_ hnew_; clear hg_ hnew_; rw [← HY.out] at ho8; have n0_ := Aside0.mk (Kd.R_lower ho8 (below_size (by repeat (first | (with_reducible first | exact HB.out | apply below_alloc | apply pw_below_drewN | apply below_drew1) | exact HB.out)))); have n1_ := Aside0.mk (below_step (by repeat (first | (with_reducible first | exact HB.out | apply below_alloc | apply pw_below_drewN | apply below_drew1) | exact HB.out)) hb); clear HB; have HO := n0_; have HB := n1_; clear n0_ n1_; clear hb ho8; obtain ⟨Ao9, co9, eo9⟩ := Kd.R_slice HO.out; subst eo9) | ((with_reducible refine gate_callee (f := 28) rfl ?_); refine goesL_ (some 10) rfl rfl Tryd.func28 (by kernel_rfl) rfl #[.int .i64 a0, .slice Ao9 y.length co9] rfl (by (try simp only [List.map_toArray, List.map_cons, List.map_nil]); first | done | rfl) ?_; (with_reducible refine (canon_circle_valid.calls a0 _ _ y true _ ?side1 ?side2 HV.out).mono ?_); (case side1 => repeat (first | exact (Kd.R_reads' HO.out).2.2 | (with_reducible refine Kd.C_alloc ?_ _) | (with_reducible refine Kd.C_drewN ?_ _) | (with_reducible refine Kd.C_drew ?_))); (case side2 => exact (Kd.R_reads' HO.out).2.1); rintro e w10 ⟨rfl, hb⟩; refine ⟨_, rfl, ?_⟩; have n0_ := Aside0.mk (below_step (by repeat (first | (with_reducible first | exact HB.out | apply below_alloc | apply pw_below_drewN | apply below_drew1) | exact HB.out)) hb); clear HB HO; have HB := n0_; clear n0_ hb))
      refine (HRUN.out _ HB.out).mono ?_
      rintro e w12 ⟨⟨rv, rfl⟩, hcell, hb⟩
      clear HB
      have HB := Aside0.mk hb
      clear hb
      go_wp2
      go_ret2
      exact ⟨by first | rfl | simp, HB.out⟩
  · rw [decide_eq_false hc] at hv
    rw [if_neg hc] at h
    have HV := Aside0.mk hv
    simp only [Option.some.injEq, Prod.mk.injEq] at h
    obtain ⟨rfl, rfl⟩ := h
    clear hv hc
    go_enter Tryd.func12, Tryd.ntmps12
    go_wp2_with (first | ((with_reducible refine gate_dst (N := 9) rfl ?_); refine Kd.R_lit (Kd.int .i64) _ 3 ?hg (N := 9) ?hd (xs := ([a1] : List Int)) (inner := [.int .i64 a1]) (ok := fun _ => True) (okp := fun _ => True) ?hr ?hp (fun _ hk => hk) trivial (Below.refl _ _) (Nat.le_refl _) (by simp) ?_; (case hd => rfl); (case hg => rfl); (case hr => first | (go_simp; done) | (go_simp; rfl)); (case hp => exact (Reps.one (show Kd.M (Kd.int .i64) _ _ _ a1 [.int .i64 a1] from rfl) (Reps.none _ _))); intro v1002 w7 ho8 hb hg_ hnew_; clear hg_ hnew_; rw [← HY.out] at ho8; have n0_ := Aside0.mk (Kd.R_lower ho8 (below_size (by repeat (first | (with_reducible first | exact HB.out | apply below_alloc | apply pw_below_drewN | apply below_drew1) | exact HB.out)))); have n1_ := Aside0.mk (below_step (by repeat (first | (with_reducible first | exact HB.out | apply below_alloc | apply pw_below_drewN | apply below_drew1) | exact HB.out)) hb); clear HB; have HO := n0_; have HB := n1_; clear n0_ n1_; clear hb ho8; obtain ⟨Ao9, co9, eo9⟩ := Kd.R_slice HO.out; subst eo9) | ((with_reducible refine gate_callee (f := 28) rfl ?_); refine goesL_ (some 10) rfl rfl Tryd.func28 (by kernel_rfl) rfl #[.int .i64 a0, .slice Ao9 y.length co9] rfl (by (try simp only [List.map_toArray, List.map_cons, List.map_nil]); first | done | rfl) ?_; (with_reducible refine (canon_circle_valid.calls a0 _ _ y false _ ?side1 ?side2 HV.out).mono ?_); (case side1 => repeat (first | exact (Kd.R_reads' HO.out).2.2 | (with_reducible refine Kd.C_alloc ?_ _) | (with_reducible refine Kd.C_drewN ?_ _) | (with_reducible refine Kd.C_drew ?_))); (case side2 => exact (Kd.R_reads' HO.out).2.1); rintro e w10 ⟨rfl, hb⟩; refine ⟨_, rfl, ?_⟩; have n0_ := Aside0.mk (below_step (by repeat (first | (with_reducible first | exact HB.out | apply below_alloc | apply pw_below_drewN | apply below_drew1) | exact HB.out)) hb); clear HB HO; have HB := n0_; clear n0_ hb))
    go_ret2
    exact ⟨by first | rfl | simp, (by repeat (first | (with_reducible first | exact HB.out | apply below_alloc | apply pw_below_drewN | apply below_drew1) | exact HB.out))⟩

end Go.Proofs.YtkidgakjeahebaaDoor.P
namespace Go.Proofs.YtkidgakjeahebaaDoor.P
open Go.RowKit Go.Proofs.YtkidgakjeahebaaDoorW.PrintWords Go.Proofs.YtkidgakjeahebaaDoorW.PrintLast Go.Proofs.YtkidgakjeahebaaDoorW.PrintMore
attribute [local go_sem] max2_int min2_int max_two min_two max_three min_three max_four min_four   -- for this text's walks alone
set_option linter.unusedVariables false
set_option linter.unusedSimpArgs false

/-! ### canon_circle_isPeriod: function 29 -/
def canon_circle_isPeriod.f (a0 : Int) (a1 : Int) (a2 : Int) : Option (Bool) := if a2 ≥ 1 then (if a2 = 0 then (none) else (if (Int.tmod a0 a2) = 0 then ((canon_circle_move.f a0 a1 a2).bind fun t1001 => (some (t1001 == a1))) else (some false))) else (some false)
set_option maxHeartbeats 8000000 in
set_option maxRecDepth 100000 in
theorem canon_circle_isPeriod.calls (a0 : Int) (a1 : Int) (a2 : Int) (r : Bool) (w : World) (h : canon_circle_isPeriod.f a0 a1 a2 = some r) :
    Calls Tryd.prog 29 #[.int .i64 a0, .int .i64 a1, .int .i64 a2] w fun e w' => e = .returned (.bool r) ∧ Drawn0 w w' := by
  have H : (if a2 ≥ 1 then (if a2 = 0 then (none) else (if (Int.tmod a0 a2) = 0 then ((canon_circle_move.f a0 a1 a2).bind fun t1001 => (some (t1001 == a1))) else (some false))) else (some false)) = some r := h
  clear h
  by_cases c4 : a2 ≥ 1
  · rw [if_pos c4] at H
    have c4b0 : decide (1 ≤ a2) = true := decide_eq_true c4
    clear c4
    by_cases c5 : a2 = 0
    · rw [if_pos c5] at H
      exact absurd H (by simp)
    · rw [if_neg c5] at H
      have c5b0 : (a2 == 0) = false := beq_eq_false_iff_ne.mpr c5
      have c5b1 : (a2 != 0) = true := bne_iff_ne.mpr c5
      by_cases c6 : (Int.tmod a0 a2) = 0
      · rw [if_pos c6] at H
        have c6b0 : ((Int.tmod a0 a2) == 0) = true := beq_iff_eq.mpr c6
        have c6b1 : ((Int.tmod a0 a2) != 0) = false := bne_eq_false_iff_eq.mpr c6
        clear c6
        replace H := Option.bind_eq_some_iff.mp H
        obtain ⟨t1001, A70, H⟩ := H
        replace H : (some (t1001 == a1)) = some r := H
        have A7 := Aside0.mk A70
        clear A70
        obtain rfl := Option.some.inj H
        go_enter Tryd.func29, Tryd.ntmps29
        go_wp2_with (first | (go_at_call 42; (with_reducible refine (canon_circle_move.calls a0 a1 a2 t1001 _ A7.out).mono ?_); rintro e w' ⟨rfl, ⟨nd, rfl⟩⟩))
        go_ret
        exact ⟨by first | rfl | (simp; done) | (simp [*]; done), by repeat (first | exact Drawn0.refl _ | apply Drawn0.step)⟩
      · rw [if_neg c6] at H
        have c6b0 : ((Int.tmod a0 a2) == 0) = false := beq_eq_false_iff_ne.mpr c6
        have c6b1 : ((Int.tmod a0 a2) != 0) = true := bne_iff_ne.mpr c6
        obtain rfl := Option.some.inj H
        go_enter Tryd.func29, Tryd.ntmps29
        go_wp2
        go_ret
        exact ⟨by first | rfl | (simp; done) | (simp [*]; done), by repeat (first | exact Drawn0.refl _ | apply Drawn0.step)⟩
  · rw [if_neg c4] at H
    have c4b0 : decide (1 ≤ a2) = false := decide_eq_false c4
    clear c4
    obtain rfl := Option.some.inj H
    go_enter Tryd.func29, Tryd.ntmps29
    go_wp2
    go_ret
    exact ⟨by first | rfl | (simp; done) | (simp [*]; done), by repeat (first | exact Drawn0.refl _ | apply Drawn0.step)⟩

end Go.Proofs.YtkidgakjeahebaaDoor.P
namespace Go.Proofs.YtkidgakjeahebaaDoor.P
open Go.RowKit Go.Proofs.YtkidgakjeahebaaDoorW.PrintWords Go.Proofs.YtkidgakjeahebaaDoorW.PrintLast Go.Proofs.YtkidgakjeahebaaDoorW.PrintMore
attribute [local go_sem] max2_int min2_int max_two min_two max_three min_three max_four min_four   -- for this text's walks alone
set_option linter.unusedVariables false
set_option linter.unusedSimpArgs false

/-! ### canon_Fold: function 9 -/
def canon_Fold.f (a0 : Int) (a1 : Int) (a2 : Int) : Option (Int × Int) := (canon_circle_valid.f a0 (([a1] : List Int))).bind fun t1004 => (if t1004 = true then (if a2 < 2 then (some (0, 2)) else (if a2 > a0 then (some (0, 2)) else ((canon_circle_isPeriod.f a0 a1 a2).bind fun t1005 => (if t1005 = true then (if 0 ≤ a2 then (some (Go.bits .and .i64 a1 (wrap64 ((shl .i64 1 a2) - 1)), 0)) else (none)) else (some (0, 2)))))) else (some (0, 2)))
set_option maxHeartbeats 8000000 in
set_option maxRecDepth 100000 in
theorem canon_Fold.calls (a0 : Int) (a1 : Int) (a2 : Int) (r1 : Int) (r2 : Int) (w : World) (h : canon_Fold.f a0 a1 a2 = some (r1, r2)) :
    Calls Tryd.prog 9 #[.int .i64 a0, .int .i64 a1, .int .i64 a2] w fun e w' => e = .returned (.tuple #[.int .i64 r1, .int .i64 r2]) ∧ Below w.heap.size w w' := by
  have HB := Aside0.mk (Below.refl w.heap.size w)
  have H : ((canon_circle_valid.f a0 (([a1] : List Int))).bind fun t1004 => (if t1004 = true then (if a2 < 2 then (some (0, 2)) else (if a2 > a0 then (some (0, 2)) else ((canon_circle_isPeriod.f a0 a1 a2).bind fun t1005 => (if t1005 = true then (if 0 ≤ a2 then (some (Go.bits .and .i64 a1 (wrap64 ((shl .i64 1 a2) - 1)), 0)) else (none)) else (some (0, 2)))))) else (some (0, 2)))) = some (r1, r2) := h
  clear h
  obtain ⟨y1001, hy1001⟩ : ∃ y_ : List Int, y_ = (([a1] : List Int)) := ⟨_, rfl⟩
  replace H : ((canon_circle_valid.f a0 y1001).bind fun t1004 => (if t1004 = true then (if a2 < 2 then (some (0, 2)) else (if a2 > a0 then (some (0, 2)) else ((canon_circle_isPeriod.f a0 a1 a2).bind fun t1005 => (if t1005 = true then (if 0 ≤ a2 then (some (Go.bits .and .i64 a1 (wrap64 ((shl .i64 1 a2) - 1)), 0)) else (none)) else (some (0, 2)))))) else (some (0, 2)))) = some (r1, r2) := by first | (rw [hy1001]; with_reducible exact H) | (have H2_ := (Option.bind_some _ _).symm.trans H; rw [hy1001]; with_reducible exact H2_) | (have H2_ := (Option.bind_some _ _).symm.trans H; with_reducible exact H2_) | with_reducible exact H | (rw [hy1001]; exact H) | exact H
  have Ny1001 := Aside0.mk hy1001
  clear hy1001
  replace H := Option.bind_eq_some_iff.mp H
  obtain ⟨t1004, A40, H⟩ := H
  replace H : (if t1004 = true then (if a2 < 2 then (some (0, 2)) else (if a2 > a0 then (some (0, 2)) else ((canon_circle_isPeriod.f a0 a1 a2).bind fun t1005 => (if t1005 = true then (if 0 ≤ a2 then (some (Go.bits .and .i64 a1 (wrap64 ((shl .i64 1 a2) - 1)), 0)) else (none)) else (some (0, 2)))))) else (some (0, 2))) = some (r1, r2) := H
  have A4 := Aside0.mk A40
  clear A40
  by_cases c5 : t1004 = true
  · subst c5
    have H1 : (if a2 < 2 then (some (0, 2)) else (if a2 > a0 then (some (0, 2)) else ((canon_circle_isPeriod.f a0 a1 a2).bind fun t1005 => (if t1005 = true then (if 0 ≤ a2 then (some (Go.bits .and .i64 a1 (wrap64 ((shl .i64 1 a2) - 1)), 0)) else (none)) else (some (0, 2)))))) = some (r1, r2) := by rw [if_pos rfl] at H; exact H
    clear H
    have H := H1
    clear H1
    by_cases c6 : a2 < 2
    · rw [if_pos c6] at H
      have c6b0 : decide (a2 < 2) = true := decide_eq_true c6
      clear c6
      simp only [Option.some.injEq, Prod.mk.injEq] at H
      obtain ⟨rfl, rfl⟩ := H
      go_enter Tryd.func9, Tryd.ntmps9
      go_wp2_with (first | ((with_reducible refine gate_dst (N := 10) rfl ?_); refine Kd.R_lit (Kd.int .i64) _ 3 ?hg (N := 10) ?hd (xs := ([a1] : List Int)) (inner := [.int .i64 a1]) (ok := fun _ => True) (okp := fun _ => True) ?hr ?hp (fun _ hk => hk) trivial (Below.refl _ _) (Nat.le_refl _) (by simp) ?_; (case hd => rfl); (case hg => rfl); (case hr => first | (go_simp; done) | (go_simp; rfl)); (case hp => exact (Reps.one (show Kd.M (Kd.int .i64) _ _ _ a1 [.int .i64 a1] from rfl) (Reps.none _ _))); intro v1002 w7 ho8 hb hg_ hnew_; clear hg_ hnew_; (first | rw [← Ny1001.out] at ho8 | (simp only [Int.reduceToNat] at ho8; rw [← Ny1001.out] at ho8)); have n0_ := Aside0.mk (Kd.R_lower ho8 (below_size (by repeat (first | (with_reducible first | exact HB.out | apply below_alloc | apply pw_below_drewN | apply below_drew1) | exact HB.out)))); have n1_ := Aside0.mk (below_step (by repeat (first | (with_reducible first | exact HB.out | apply below_alloc | apply pw_below_drewN | apply below_drew1) | exact HB.out)) hb); clear HB; have HO1003 := n0_; have HB := n1_; clear n0_ n1_; clear hb ho8; obtain ⟨Ao9, co9, eo9⟩ := Kd.R_slice HO1003.out; subst eo9) | ((with_reducible refine gate_callee (f := 28) rfl ?_); refine goesL_ (some 11) rfl rfl Tryd.func28 (by kernel_rfl) rfl #[.int .i64 a0, .slice Ao9 y1001.length co9] rfl (by (try simp only [List.map_toArray, List.map_cons, List.map_nil]); first | done | rfl | (simp only [List.length_drop, List.length_take]; rfl)) ?_; (with_reducible refine (canon_circle_valid.calls a0 _ _ y1001 true _ ?side1 ?side2 A4.out).mono ?_); (case side1 => repeat (first | exact (Kd.R_reads' HO1003.out).2.2 | (with_reducible refine Kd.C_alloc ?_ _) | (with_reducible refine Kd.C_drewN ?_ _) | (with_reducible refine Kd.C_drew ?_))); (case side2 => exact (Kd.R_reads' HO1003.out).2.1); rintro e w10 ⟨rfl, hb⟩; refine ⟨_, rfl, ?_⟩; have n0_ := Aside0.mk (Kd.R_below (by (with_reducible repeat (first | apply Kd.R_alloc | apply Kd.R_drewN | apply Kd.R_drew)); exact HO1003.out) hb); have n1_ := Aside0.mk (below_step (by repeat (first | (with_reducible first | exact HB.out | apply below_alloc | apply pw_below_drewN | apply below_drew1) | exact HB.out)) hb); clear HO1003; clear HB; have HO1003 := n0_; have HB := n1_; clear n0_ n1_; (try clear hb); (try clear hb2); (try clear hk); (try clear hi)))
      go_ret2
      exact ⟨by first | rfl | (simp [errW_none, errW_some] <;> rfl) | (simp [*, errW_none, errW_some] <;> rfl), by repeat (first | (with_reducible first | exact HB.out | apply below_alloc | apply pw_below_drewN | apply below_drew1) | exact HB.out)⟩
    · rw [if_neg c6] at H
      have c6b0 : decide (a2 < 2) = false := decide_eq_false c6
      clear c6
      by_cases c11 : a2 > a0
      · rw [if_pos c11] at H
        have c11b0 : decide (a0 < a2) = true := decide_eq_true c11
        clear c11
        simp only [Option.some.injEq, Prod.mk.injEq] at H
        obtain ⟨rfl, rfl⟩ := H
        go_enter Tryd.func9, Tryd.ntmps9
        go_wp2_with (first | ((with_reducible refine gate_dst (N := 10) rfl ?_); refine Kd.R_lit (Kd.int .i64) _ 3 ?hg (N := 10) ?hd (xs := ([a1] : List Int)) (inner := [.int .i64 a1]) (ok := fun _ => True) (okp := fun _ => True) ?hr ?hp (fun _ hk => hk) trivial (Below.refl _ _) (Nat.le_refl _) (by simp) ?_; (case hd => rfl); (case hg => rfl); (case hr => first | (go_simp; done) | (go_simp; rfl)); (case hp => exact (Reps.one (show Kd.M (Kd.int .i64) _ _ _ a1 [.int .i64 a1] from rfl) (Reps.none _ _))); intro v1002 w12 ho13 hb hg_ hnew_; clear hg_ hnew_; (first | rw [← Ny1001.out] at ho13 | (simp only [Int.reduceToNat] at ho13; rw [← Ny1001.out] at ho13)); have n0_ := Aside0.mk (Kd.R_lower ho13 (below_size (by repeat (first | (with_reducible first | exact HB.out | apply below_alloc | apply pw_below_drewN | apply below_drew1) | exact HB.out)))); have n1_ := Aside0.mk (below_step (by repeat (first | (with_reducible first | exact HB.out | apply below_alloc | apply pw_below_drewN | apply below_drew1) | exact HB.out)) hb); clear HB; have HO1003 := n0_; have HB := n1_; clear n0_ n1_; clear hb ho13; obtain ⟨Ao14, co14, eo14⟩ := Kd.R_slice HO1003.out; subst eo14) | ((with_reducible refine gate_callee (f := 28) rfl ?_); refine goesL_ (some 11) rfl rfl Tryd.func28 (by kernel_rfl) rfl #[.int .i64 a0, .slice Ao14 y1001.length co14] rfl (by (try simp only [List.map_toArray, List.map_cons, List.map_nil]); first | done | rfl | (simp only [List.length_drop, List.length_take]; rfl)) ?_; (with_reducible refine (canon_circle_valid.calls a0 _ _ y1001 true _ ?side1 ?side2 A4.out).mono ?_); (case side1 => repeat (first | exact (Kd.R_reads' HO1003.out).2.2 | (with_reducible refine Kd.C_alloc ?_ _) | (with_reducible refine Kd.C_drewN ?_ _) | (with_reducible refine Kd.C_drew ?_))); (case side2 => exact (Kd.R_reads' HO1003.out).2.1); rintro e w15 ⟨rfl, hb⟩; refine ⟨_, rfl, ?_⟩; have n0_ := Aside0.mk (Kd.R_below (by (with_reducible repeat (first | apply Kd.R_alloc | apply Kd.R_drewN | apply Kd.R_drew)); exact HO1003.out) hb); have n1_ := Aside0.mk (below_step (by repeat (first | (with_reducible first | exact HB.out | apply below_alloc | apply pw_below_drewN | apply below_drew1) | exact HB.out)) hb); clear HO1003; clear HB; have HO1003 := n0_; have HB := n1_; clear n0_ n1_; (try clear hb); (try clear hb2); (try clear hk); (try clear hi)))
        go_ret2
        exact ⟨by first | rfl | (simp [errW_none, errW_some] <;> rfl) | (simp [*, errW_none, errW_some] <;> rfl), by repeat (first | (with_reducible first | exact HB.out | apply below_alloc | apply pw_below_drewN | apply below_drew1) | exact HB.out)⟩
      · rw [if_neg c11] at H
        have c11b0 : decide (a0 < a2) = false := decide_eq_false c11
        clear c11
        replace H := Option.bind_eq_some_iff.mp H
        obtain ⟨t1005, A160, H⟩ := H
        replace H : (if t1005 = true then (if 0 ≤ a2 then (some (Go.bits .and .i64 a1 (wrap64 ((shl .i64 1 a2) - 1)), 0)) else (none)) else (some (0, 2))) = some (r1, r2) := H
        have A16 := Aside0.mk A160
        clear A160
        by_cases c17 : t1005 = true
        · subst c17
          have H1 : (if 0 ≤ a2 then (some (Go.bits .and .i64 a1 (wrap64 ((shl .i64 1 a2) - 1)), 0)) else (none)) = some (r1, r2) := by rw [if_pos rfl] at H; exact H
          clear H
          have H := H1
          clear H1
          by_cases c18 : 0 ≤ a2
          · rw [if_pos c18] at H
            have c18b0 := eq_true c18
            have c18b1 : decide (0 ≤ a2) = true := decide_eq_true c18
            clear c18
            obtain ⟨ji19, hji19⟩ : ∃ j_ : Int, (shl .i64 1 a2) = j_ := ⟨_, rfl⟩
            replace H : (some (Go.bits .and .i64 a1 (wrap64 ((ji19) - 1)), 0)) = some (r1, r2) := by first | (rw [hji19] at H; exact H) | (simp only [hji19] at H ⊢; exact H)
            (try rw [hji19] at A4)
            (try rw [hji19] at A16)
            have hji19_ : (IntKind.i64.wrap (1 * 2 ^ min a2.toNat 64)) = ji19 := hji19
            have hji19z : a2 ≤ 64 → (IntKind.i64.wrap (1 * 2 ^ a2.toNat)) = ji19 := shl_small hji19
            have hji19u : (IntKind.i64.wrap (2 ^ min a2.toNat 64)) = ji19 := by have h_ := hji19_; rw [Int.one_mul] at h_; exact h_
            have hji19v : a2 ≤ 64 → (IntKind.i64.wrap (2 ^ a2.toNat)) = ji19 := fun hle_ => by have h_ := hji19z hle_; rw [Int.one_mul] at h_; exact h_
            have hji19y : (wrap64 (1 * 2 ^ min a2.toNat 64)) = ji19 := (i64_w _).symm.trans hji19_
            have hji19x : a2 ≤ 64 → (wrap64 (1 * 2 ^ a2.toNat)) = ji19 := fun h_ => (i64_w _).symm.trans (hji19z h_)
            simp only [Option.some.injEq, Prod.mk.injEq] at H
            obtain ⟨rfl, rfl⟩ := H
            go_enter Tryd.func9, Tryd.ntmps9
            go_wp2_with (first | ((with_reducible refine gate_dst (N := 10) rfl ?_); refine Kd.R_lit (Kd.int .i64) _ 3 ?hg (N := 10) ?hd (xs := ([a1] : List Int)) (inner := [.int .i64 a1]) (ok := fun _ => True) (okp := fun _ => True) ?hr ?hp (fun _ hk => hk) trivial (Below.refl _ _) (Nat.le_refl _) (by simp) ?_; (case hd => rfl); (case hg => rfl); (case hr => first | (go_simp; done) | (go_simp; rfl)); (case hp => exact (Reps.one (show Kd.M (Kd.int .i64) _ _ _ a1 [.int .i64 a1] from rfl) (Reps.none _ _))); intro v1002 w20 ho21 hb hg_ hnew_; clear hg_ hnew_; (first | rw [← Ny1001.out] at ho21 | (simp only [Int.reduceToNat] at ho21; rw [← Ny1001.out] at ho21)); have n0_ := Aside0.mk (Kd.R_lower ho21 (below_size (by repeat (first | (with_reducible first | exact HB.out | apply below_alloc | apply pw_below_drewN | apply below_drew1) | exact HB.out)))); have n1_ := Aside0.mk (below_step (by repeat (first | (with_reducible first | exact HB.out | apply below_alloc | apply pw_below_drewN | apply below_drew1) | exact HB.out)) hb); clear HB; have HO1003 := n0_; have HB := n1_; clear n0_ n1_; clear hb ho21; obtain ⟨Ao22, co22, eo22⟩ := Kd.R_slice HO1003.out; subst eo22) | ((with_reducible refine gate_callee (f := 28) rfl ?_); refine goesL_ (some 11) rfl rfl Tryd.func28 (by kernel_rfl) rfl #[.int .i64 a0, .slice Ao22 y1001.length co22] rfl (by (try simp only [List.map_toArray, List.map_cons, List.map_nil]); first | done | rfl | (simp only [List.length_drop, List.length_take]; rfl)) ?_; (with_reducible refine (canon_circle_valid.calls a0 _ _ y1001 true _ ?side1 ?side2 A4.out).mono ?_); (case side1 => repeat (first | exact (Kd.R_reads' HO1003.out).2.2 | (with_reducible refine Kd.C_alloc ?_ _) | (with_reducible refine Kd.C_drewN ?_ _) | (with_reducible refine Kd.C_drew ?_))); (case side2 => exact (Kd.R_reads' HO1003.out).2.1); rintro e w23 ⟨rfl, hb⟩; refine ⟨_, rfl, ?_⟩; have n0_ := Aside0.mk (Kd.R_below (by (with_reducible repeat (first | apply Kd.R_alloc | apply Kd.R_drewN | apply Kd.R_drew)); exact HO1003.out) hb); have n1_ := Aside0.mk (below_step (by repeat (first | (with_reducible first | exact HB.out | apply below_alloc | apply pw_below_drewN | apply below_drew1) | exact HB.out)) hb); clear HO1003; clear HB; have HO1003 := n0_; have HB := n1_; clear n0_ n1_; (try clear hb); (try clear hb2); (try clear hk); (try clear hi)) | (go_at_call 29; (with_reducible refine (canon_circle_isPeriod.calls a0 a1 a2 true _ A16.out).mono ?_); rintro e w' ⟨rfl, ⟨nd, rfl⟩⟩))
            go_ret2
            exact ⟨by first | rfl | (simp [errW_none, errW_some] <;> rfl) | (simp only [← hji19]; first | rfl | (simp [errW_none, errW_some] <;> rfl)) | (simp [*, errW_none, errW_some] <;> rfl), by repeat (first | (with_reducible first | exact HB.out | apply below_alloc | apply pw_below_drewN | apply below_drew1) | exact HB.out)⟩
          · rw [if_neg c18] at H
            exact absurd H (by simp)
        · replace c17 := Bool.eq_false_iff.mpr c17
          subst c17
          have H1 : (some (0, 2)) = some (r1, r2) := by rw [if_neg (show ¬ (false = true) by decide)] at H; exact H
          clear H
          have H := H1
          clear H1
          simp only [Option.some.injEq, Prod.mk.injEq] at H
          obtain ⟨rfl, rfl⟩ := H
          go_enter Tryd.func9, Tryd.ntmps9
          go_wp2_with (first | ((with_reducible refine gate_dst (N := 10) rfl ?_); refine Kd.R_lit (Kd.int .i64) _ 3 ?hg (N := 10) ?hd (xs := ([a1] : List Int)) (inner := [.int .i64 a1]) (ok := fun _ => True) (okp := fun _ => True) ?hr ?hp (fun _ hk => hk) trivial (Below.refl _ _) (Nat.le_refl _) (by simp) ?_; (case hd => rfl); (case hg => rfl); (case hr => first | (go_simp; done) | (go_simp; rfl)); (case hp => exact (Reps.one (show Kd.M (Kd.int .i64) _ _ _ a1 [.int .i64 a1] from rfl) (Reps.none _ _))); intro v1002 w24 ho25 hb hg_ hnew_; clear hg_ hnew_; (first | rw [← Ny1001.out] at ho25 | (simp only [Int.reduceToNat] at ho25; rw [← Ny1001.out] at ho25)); have n0_ := Aside0.mk (Kd.R_lower ho25 (below_size (by repeat (first | (with_reducible first | exact HB.out | apply below_alloc | apply pw_below_drewN | apply below_drew1) | exact HB.out)))); have n1_ := Aside0.mk (below_step (by repeat (first | (with_reducible first | exact HB.out | apply below_alloc | apply pw_below_drewN | apply below_drew1) | exact HB.out)) hb); clear HB; have HO1003 := n0_; have HB := n1_; clear n0_ n1_; clear hb ho25; obtain ⟨Ao26, co26, eo26⟩ := Kd.R_slice HO1003.out; subst eo26) | ((with_reducible refine gate_callee (f := 28) rfl ?_); refine goesL_ (some 11) rfl rfl Tryd.func28 (by kernel_rfl) rfl #[.int .i64 a0, .slice Ao26 y1001.length co26] rfl (by (try simp only [List.map_toArray, List.map_cons, List.map_nil]); first | done | rfl | (simp only [List.length_drop, List.length_take]; rfl)) ?_; (with_reducible refine (canon_circle_valid.calls a0 _ _ y1001 true _ ?side1 ?side2 A4.out).mono ?_); (case side1 => repeat (first | exact (Kd.R_reads' HO1003.out).2.2 | (with_reducible refine Kd.C_alloc ?_ _) | (with_reducible refine Kd.C_drewN ?_ _) | (with_reducible refine Kd.C_drew ?_))); (case side2 => exact (Kd.R_reads' HO1003.out).2.1); rintro e w27 ⟨rfl, hb⟩; refine ⟨_, rfl, ?_⟩; have n0_ := Aside0.mk (Kd.R_below (by (with_reducible repeat (first | apply Kd.R_alloc | apply Kd.R_drewN | apply Kd.R_drew)); exact HO1003.out) hb); have n1_ := Aside0.mk (below_step (by repeat (first | (with_reducible first | exact HB.out | apply below_alloc | apply pw_below_drewN | apply below_drew1) | exact HB.out)) hb); clear HO1003; clear HB; have HO1003 := n0_; have HB := n1_; clear n0_ n1_; (try clear hb); (try clear hb2); (try clear hk); (try clear hi)) | (go_at_call 29; (with_reducible refine (canon_circle_isPeriod.calls a0 a1 a2 false _ A16.out).mono ?_); rintro e w' ⟨rfl, ⟨nd, rfl⟩⟩))
          go_ret2
          exact ⟨by first | rfl | (simp [errW_none, errW_some] <;> rfl) | (simp [*, errW_none, errW_some] <;> rfl), by repeat (first | (with_reducible first | exact HB.out | apply below_alloc | apply pw_below_drewN | apply below_drew1) | exact HB.out)⟩
  · replace c5 := Bool.eq_false_iff.mpr c5
    subst c5
    have H1 : (some (0, 2)) = some (r1, r2) := by rw [if_neg (show ¬ (false = true) by decide)] at H; exact H
    clear H
    have H := H1
    clear H1
    simp only [Option.some.injEq, Prod.mk.injEq] at H
    obtain ⟨rfl, rfl⟩ := H
    go_enter Tryd.func9, Tryd.ntmps9
    go_wp2_with (first | ((with_reducible refine gate_dst (N := 10) rfl ?_); refine Kd.R_lit (Kd.int .i64) _ 3 ?hg (N := 10) ?hd (xs := ([a1] : List Int)) (inner := [.int .i64 a1]) (ok := fun _ => True) (okp := fun _ => True) ?hr ?hp (fun _ hk => hk) trivial (Below.refl _ _) (Nat.le_refl _) (by simp) ?_; (case hd => rfl); (case hg => rfl); (case hr => first | (go_simp; done) | (go_simp; rfl)); (case hp => exact (Reps.one (show Kd.M (Kd.int .i64) _ _ _ a1 [.int .i64 a1] from rfl) (Reps.none _ _))); intro v1002 w28 ho29 hb hg_ hnew_; clear hg_ hnew_; (first | rw [← Ny1001.out] at ho29 | (simp only [Int.reduceToNat] at ho29; rw [← Ny1001.out] at ho29)); have n0_ := Aside0.mk (Kd.R_lower ho29 (below_size (by repeat (first | (with_reducible first | exact HB.out | apply below_alloc | apply pw_below_drewN | apply below_drew1) | exact HB.out)))); have n1_ := Aside0.mk (below_step (by repeat (first | (with_reducible first | exact HB.out | apply below_alloc | apply pw_below_drewN | apply below_drew1) | exact HB.out)) hb); clear HB; have HO1003 := n0_; have HB := n1_; clear n0_ n1_; clear hb ho29; obtain ⟨Ao30, co30, eo30⟩ := Kd.R_slice HO1003.out; subst eo30) | ((with_reducible refine gate_callee (f := 28) rfl ?_); refine goesL_ (some 11) rfl rfl Tryd.func28 (by kernel_rfl) rfl #[.int .i64 a0, .slice Ao30 y1001.length co30] rfl (by (try simp only [List.map_toArray, List.map_cons, List.map_nil]); first | done | rfl | (simp only [List.length_drop, List.length_take]; rfl)) ?_; (with_reducible refine (canon_circle_valid.calls a0 _ _ y1001 false _ ?side1 ?side2 A4.out).mono ?_); (case side1 => repeat (first | exact (Kd.R_reads' HO1003.out).2.2 | (with_reducible refine Kd.C_alloc ?_ _) | (with_reducible refine Kd.C_drewN ?_ _) | (with_reducible refine Kd.C_drew ?_))); (case side2 => exact (Kd.R_reads' HO1003.out).2.1); rintro e w31 ⟨rfl, hb⟩; refine ⟨_, rfl, ?_⟩; have n0_ := Aside0.mk (Kd.R_below (by (with_reducible repeat (first | apply Kd.R_alloc | apply Kd.R_drewN | apply Kd.R_drew)); exact HO1003.out) hb); have n1_ := Aside0.mk (below_step (by repeat (first | (with_reducible first | exact HB.out | apply below_alloc | apply pw_below_drewN | apply below_drew1) | exact HB.out)) hb); clear HO1003; clear HB; have HO1003 := n0_; have HB := n1_; clear n0_ n1_; (try clear hb); (try clear hb2); (try clear hk); (try clear hi)))
    go_ret2
    exact ⟨by first | rfl | (simp [errW_none, errW_some] <;> rfl) | (simp [*, errW_none, errW_some] <;> rfl), by repeat (first | (with_reducible first | exact HB.out | apply below_alloc | apply pw_below_drewN | apply below_drew1) | exact HB.out)⟩

end Go.Proofs.YtkidgakjeahebaaDoor.P
