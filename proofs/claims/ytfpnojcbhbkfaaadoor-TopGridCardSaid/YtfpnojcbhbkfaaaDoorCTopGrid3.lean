/- A part of a proof that a law's Go function returns true for every input, laid by this session's program mp.py (which drives the kit's print). Conditions: as each theorem states them. -/
import Derived.StillTailTactics
import Derived.Sort.QuietIn
import Derived.Laws.EntriesVeiled
import Derived.Shelf.Abstract
import Derived.RegionTactic
import Derived.Test.YtfpnojcbhbkfaaaDoorCTopGrid1
import Derived.Test.YtfpnojcbhbkfaaaDoorCTopGrid2
namespace Go.Proofs.YtfpnojcbhbkfaaaDoor.P
open Go.RowKit Go.Proofs.YtfpnojcbhbkfaaaDoorW.PrintWords Go.Proofs.YtfpnojcbhbkfaaaDoorW.PrintLast Go.Proofs.YtfpnojcbhbkfaaaDoorW.PrintMore
attribute [local go_sem] max2_int min2_int max_two min_two max_three min_three max_four min_four   -- for this text's walks alone
set_option linter.unusedVariables false
set_option linter.unusedSimpArgs false

/-! canon's partners: the first free beat is filled in each way -/
def KeepB (S : Nat) (w w' : World) : Prop := (∀ b, S ≤ b → b < S + 4 → w'.heap[b]? = w.heap[b]?) ∧ w'.heap[1]? = w.heap[1]?
theorem KeepB.refl (S : Nat) (w : World) : KeepB S w w := ⟨fun _ _ _ => rfl, rfl⟩
theorem KeepB.trans {S : Nat} {a b c : World} (h : KeepB S a b) (k : KeepB S b c) : KeepB S a c := ⟨fun i h1 h2 => (k.1 i h1 h2).trans (h.1 i h1 h2), k.2.trans h.2⟩
theorem KeepB.drew (S : Nat) (w : World) (q : Nat) : KeepB S w (w.drewN q) := ⟨fun _ _ _ => rfl, rfl⟩
structure Boxes4 (S n a g : Nat) (lb : Array Value) (w : World) : Prop where
  cn : w.cell? ⟨S, 0, none⟩ = some (.int .i64 (n : Int))
  ca : w.cell? ⟨S + 1, 0, none⟩ = some (.int .i64 (a : Int))
  cm : w.cell? ⟨S + 1 + 1, 0, none⟩ = some (.func (.func g) #[] lb)
  cf : w.cell? ⟨S + 1 + 1 + 1, 0, none⟩ = some (.func (.func 92) #[] #[.pointer (some ⟨S, 0, none⟩), .pointer (some ⟨S + 1 + 1, 0, none⟩), .pointer (some ⟨S + 1, 0, none⟩), .pointer (some ⟨S + 1 + 1 + 1, 0, none⟩)])
theorem Boxes4.keep {S n a g : Nat} {lb : Array Value} {w w' : World} (h : Boxes4 S n a g lb w) (k : KeepB S w w') : Boxes4 S n a g lb w' :=
  ⟨(cell_heap (k.1 _ (by omega) (by omega)) 0).trans h.cn, (cell_heap (k.1 _ (by omega) (by omega)) 0).trans h.ca, (cell_heap (k.1 _ (by omega) (by omega)) 0).trans h.cm, (cell_heap (k.1 _ (by omega) (by omega)) 0).trans h.cf⟩
def took (cont : Bool) (l : List Nat) : List Nat := if cont then l else l.take 1
def FillPost (S : Nat) (J : List Nat → World → Prop) (pre L : List Nat) (cont : Bool) (w : World) (e : Ending) (w' : World) : Prop :=
  e = .returned (.bool (cont || L.isEmpty)) ∧ J (pre ++ took cont L) w' ∧ KeepB S w w'
def visOne (n a d b F x : Nat) : List Nat := match stA n a (freeAt n F) x with
  | some k => if moveN n a k &&& F = 0 then vis n a (stA n a) d (b ||| 2 ^ k) (F ||| moveN n a k) else []
  | none => []
def visTo (n a d b F m : Nat) : List Nat := (List.range m).flatMap (visOne n a d b F)
theorem visTo_succ (n a d b F m : Nat) : visTo n a d b F (m + 1) = visTo n a d b F m ++ visOne n a d b F m := by unfold visTo; rw [List.range_succ]; simp
theorem vis_full {n a d b F : Nat} (h : F = 2 ^ n - 1) : vis n a (stA n a) (d + 1) b F = [b] := by simp only [vis]; rw [if_pos h]
theorem vis_more {n a d b F : Nat} (h : F ≠ 2 ^ n - 1) : vis n a (stA n a) (d + 1) b F = visTo n a d b F n := by simp only [vis]; rw [if_neg h]; rfl
theorem andNot_i64 {n F : Nat} (hn : n ≤ 24) (hF : F < 2 ^ n) : Go.bits .andNot .i64 ((2 ^ n - 1 : Nat) : Int) (F : Int) = (compl n F : Int) := by
  have hp : 2 ^ n ≤ 2 ^ 24 := Nat.pow_le_pow_right (by omega) hn
  have h24 : (2 : Nat) ^ 24 = 16777216 := by decide
  have h0 := Nat.two_pow_pos n
  have hb : IntKind.i64.bits = 64 := rfl
  have h64 : (2 : Nat) ^ 64 = 18446744073709551616 := by decide
  simp only [Go.bits, BitVec.ofInt_natCast, BitVec.toNat_and, BitVec.toNat_not, BitVec.toNat_ofNat, hb]
  rw [Nat.mod_eq_of_lt (show 2 ^ n - 1 < 2 ^ 64 by omega), Nat.mod_eq_of_lt (show F < 2 ^ 64 by omega), h64, compl_and hn hF]
  have := compl_lt n F
  exact i64_id (by omega) (by omega)
section
variable (S n a g : Nat) (lb : Array Value) (cont : Bool) (J : List Nat → World → Prop)
set_option maxHeartbeats 2000000 in
set_option maxRecDepth 100000 in
theorem fill_full (eg : ∀ args w, (callFunc g args).run Tryd.prog w = .ok (.enter g args) w) (hn : 2 ≤ n) (hn2 : n ≤ 24) (b F d : Nat) (pre : List Nat) (w : World) (e : F = 2 ^ n - 1) (hB : Boxes4 S n a g lb w) 
    (hm : ∀ q, Calls Tryd.prog g (#[.int .i64 (b : Int)] ++ lb) (w.drewN q) fun e w' => e = .returned (.bool cont) ∧ J (pre ++ [b]) w' ∧ KeepB S (w.drewN q) w') :
    Calls Tryd.prog 92 #[.int .i64 (b : Int), .int .i64 (F : Int), .pointer (some ⟨S, 0, none⟩), .pointer (some ⟨S + 1 + 1, 0, none⟩), .pointer (some ⟨S + 1, 0, none⟩), .pointer (some ⟨S + 1 + 1 + 1, 0, none⟩)] w
      (FillPost S J pre (vis n a (stA n a) (d + 1) b F) cont w) := by
  rw [vis_full e]
  obtain ⟨cn, ca, cm, cf⟩ := hB
  have HA := Aside0.mk (all_f hn2)
  have heq : ((F : Int) == ((2 ^ n - 1 : Nat) : Int)) = true := by rw [e]; exact beq_self_eq_true _
  have HM := Aside0.mk hm
  clear e hm ca cf
  generalize (2 ^ n - 1 : Nat) = full at HA heq
  go_enter Tryd.func92, Tryd.ntmps92
  go_wp2_with (first | (go_at_call 91; refine (canon_circle_all.calls _ _ _ HA.out).mono ?_; rintro e w' ⟨rfl, ⟨q, rfl⟩⟩) | ((with_reducible refine (HM.out _).mono ?_); rintro e w' ⟨rfl, hj, hk⟩))
  go_ret
  refine ⟨by simp, ?_, KeepB.trans (KeepB.drew S w _) hk⟩
  have : took cont [b] = [b] := by unfold took; cases cont <;> rfl
  rw [this]; exact hj
theorem took_go {cont : Bool} {V L : List Nat} (h : (cont || V.isEmpty) = true) (hc : cont = true ∨ L = []) : took cont V = V ∧ (cont = true ∨ L ++ V = []) := by
  cases cont with
  | true => exact ⟨rfl, .inl rfl⟩
  | false =>
    have hv : V = [] := by simpa using h
    have hl : L = [] := by simpa using hc
    subst hv hl
    exact ⟨rfl, .inr rfl⟩
theorem took_stop {cont : Bool} {V L A O : List Nat} (h : (cont || V.isEmpty) = false) (hc : cont = true ∨ L = []) (hs : ∃ R, A = L ++ O ++ R) (ho : O = V) : (cont || A.isEmpty) = false ∧ L = [] ∧ took cont A = took cont V := by
  obtain ⟨R, hs⟩ := hs
  rw [Bool.or_eq_false_iff] at h
  obtain ⟨h1, h2⟩ := h
  subst h1
  have hl : L = [] := by simpa using hc
  subst hl ho
  cases O with
  | nil => simp at h2
  | cons v V => subst hs; exact ⟨by simp, rfl, by simp [took]⟩
theorem took_all {cont : Bool} {L : List Nat} (hc : cont = true ∨ L = []) : took cont L = L := by
  rcases hc with rfl | rfl
  · rfl
  · cases cont <;> rfl
theorem visTo_split (n a d b F : Nat) {x : Nat} (hx : x < n) : ∃ R, visTo n a d b F n = visTo n a d b F x ++ visOne n a d b F x ++ R := by
  rw [← visTo_succ]
  obtain ⟨r, hr⟩ : ∃ r, n = x + 1 + r := ⟨n - (x + 1), by omega⟩
  have h : ∀ r, ∃ R, visTo n a d b F (x + 1 + r) = visTo n a d b F (x + 1) ++ R := by
    intro r
    induction r with
    | zero => exact ⟨[], by simp⟩
    | succ r ih =>
      obtain ⟨R, hR⟩ := ih
      exact ⟨R ++ visOne n a d b F (x + 1 + r), by rw [← Nat.add_assoc, visTo_succ, hR, List.append_assoc]⟩
  obtain ⟨R, hR⟩ := h r
  exact ⟨R, by rw [← hR, ← hr]⟩
theorem bit_shr {n a x : Nat} (hn : n ≤ 24) (ha : a < 2 ^ n) (hx : x ≤ 64) : ∃ sh : Int, (a : Int) / 2 ^ x = sh ∧ Go.bits .and .i64 sh 1 = if a.testBit x then 1 else 0 := by
  refine ⟨_, rfl, ?_⟩
  have h := bit_r hn ha hx
  unfold shr at h
  rw [Int.toNat_natCast, show min x IntKind.i64.bits = x from Nat.min_eq_left (by show x ≤ 64; omega)] at h
  exact h
theorem round_nums {n a F f x : Nat} (hn2 : n ≤ 24) (ha : a < 2 ^ n) (hF : F < 2 ^ n) (hf : f < n) (hx : x < n) : ((f : Int) - (x : Int) + (n : Int)) % (n : Int) = (((f + (n - x)) % n : Nat) : Int) ∧ Int.tmod ((f : Int) - (x : Int) + (n : Int)) (n : Int) = (((f + (n - x)) % n : Nat) : Int) ∧ ((n : Int) == 0) = false ∧
    canon_circle_move.f (n : Int) (a : Int) (((f + (n - x)) % n : Nat) : Int) = some (moveN n a ((f + (n - x)) % n) : Int) ∧ Go.bits .and .i64 (moveN n a ((f + (n - x)) % n) : Int) (F : Int) = ((moveN n a ((f + (n - x)) % n) &&& F : Nat) : Int) := by
  have hk : (f + (n - x)) % n < n := Nat.mod_lt _ (by omega)
  have e : (f : Int) - (x : Int) + (n : Int) = ((f + (n - x) : Nat) : Int) := by omega
  refine ⟨by rw [e]; omega, ?_, beq_eq_false_iff_ne.2 (by omega), cmove_f hn2 (by omega) ha, and_r hn2 (moveN_lt n a _) hF⟩
  rw [e, Int.tmod_eq_emod_of_nonneg (by omega)]; omega
theorem next_nums {n b F k m : Nat} (hn2 : n ≤ 24) (hb : b < 2 ^ n) (hF : F < 2 ^ n) (hk : k < n) (hm : m < 2 ^ n) : ∃ p2 b2 F2 : Nat, IntKind.i64.wrap ((2 : Int) ^ k) = (p2 : Int) ∧ wrap64 ((2 : Int) ^ k) = (p2 : Int) ∧ Go.bits .or .i64 (b : Int) (p2 : Int) = (b2 : Int) ∧
    Go.bits .or .i64 (F : Int) (m : Int) = (F2 : Int) ∧ b ||| 2 ^ k = b2 ∧ F ||| m = F2 := by
  have hp : 2 ^ k < 2 ^ n := Nat.pow_lt_pow_right (by omega) hk
  have h24 := pow24 hn2
  refine ⟨2 ^ k, b ||| 2 ^ k, F ||| m, ?_, ?_, or_r hn2 hb hp, or_r hn2 hF hm, rfl, rfl⟩
  · rw [← pow_cast]; generalize 2 ^ k = P at hp ⊢; rw [i64_id (by omega) (by omega)]
  · rw [← pow_cast]; generalize 2 ^ k = P at hp ⊢; rw [wrap_id (by omega) (by omega)]
set_option maxHeartbeats 4000000 in
set_option maxRecDepth 100000 in
theorem fill_free (eg : ∀ args w, (callFunc g args).run Tryd.prog w = .ok (.enter g args) w) (hn : 2 ≤ n) (hn2 : n ≤ 24) (ha : a < 2 ^ n) (b F d : Nat) (pre : List Nat) (w : World) (hP : Part n a b F) (e : F ≠ 2 ^ n - 1) (hB : Boxes4 S n a g lb w) (hT : Tabs w) (hJ : J pre w) (hJd : ∀ s A q, J s A → J s (A.drewN q))
    (ih : ∀ (k : Nat) (pre : List Nat) (w : World), k < n → moveN n a k &&& F = 0 → (moveN n a k).testBit (freeAt n F) = true → Boxes4 S n a g lb w → Tabs w → J pre w → Calls Tryd.prog 92 #[.int .i64 ((b ||| 2 ^ k : Nat) : Int), .int .i64 ((F ||| moveN n a k : Nat) : Int), .pointer (some ⟨S, 0, none⟩), .pointer (some ⟨S + 1 + 1, 0, none⟩), .pointer (some ⟨S + 1, 0, none⟩), .pointer (some ⟨S + 1 + 1 + 1, 0, none⟩)] w
      (FillPost S J pre (vis n a (stA n a) d (b ||| 2 ^ k) (F ||| moveN n a k)) cont w)) :
    Calls Tryd.prog 92 #[.int .i64 (b : Int), .int .i64 (F : Int), .pointer (some ⟨S, 0, none⟩), .pointer (some ⟨S + 1 + 1, 0, none⟩), .pointer (some ⟨S + 1, 0, none⟩), .pointer (some ⟨S + 1 + 1 + 1, 0, none⟩)] w
      (FillPost S J pre (vis n a (stA n a) (d + 1) b F) cont w) := by
  rw [vis_more e]
  obtain ⟨hb, hF, -, -⟩ := hP
  have cn := hB.cn
  obtain ⟨hl1, hl2, hl3, hl4⟩ := free_low hn2 hF e
  have HFS := Aside0.mk (freeAt_spec hF e).1
  have HB := Aside0.mk hB
  have HTB := Aside0.mk hT
  have HA := Aside0.mk (all_f hn2)
  have heq : ((F : Int) == ((2 ^ n - 1 : Nat) : Int)) = false := beq_eq_false_iff_ne.2 (fun h => e (by exact_mod_cast h))
  have hnot := andNot_i64 hn2 hF
  have HTZ := Aside0.mk (fun q => TZ_calls (compl n F) (freeAt n F) hl1 hl2 hl3 hl4 (w.drewN q) (hT.heap rfl))
  have hu : IntKind.u64.wrap (compl n F : Int) = (compl n F : Int) := by
    rw [u64_mod]; have : (2 : Nat) ^ 24 = 16777216 := by decide
    omega
  have HF := Aside0.mk hF
  have HBB := Aside0.mk hb
  have HE := Aside0.mk e
  have HI := Aside0.mk ih
  have HJD := Aside0.mk hJd
  have HJ := Aside0.mk hJ
  have HN := Aside0.mk hn
  have HN2 := Aside0.mk hn2
  have HAA := Aside0.mk ha
  have hn63 : n ≤ 24 := hn2
  clear e hJ hJd ih hF hb hl1 hl2 hl3 hl4 hB hT hn hn2 ha
  generalize hfull : (2 ^ n - 1 : Nat) = full at HA heq hnot
  generalize hcompl : compl n F = cF at hnot HTZ hu
  have HCF := Aside0.mk hcompl
  have HFU := Aside0.mk hfull
  clear hfull hcompl
  go_enter Tryd.func92, Tryd.ntmps92
  go_wp2_with (first | (go_at_call 91; refine (canon_circle_all.calls _ _ _ HA.out).mono ?_; rintro e w' ⟨rfl, ⟨q, rfl⟩⟩) | (go_at_call 93; refine (HTZ.out _).mono ?_; rintro e w' ⟨rfl, rfl⟩))
  obtain ⟨f, hf⟩ : ∃ f, freeAt n F = f := ⟨_, rfl⟩
  rw [hf] at HFS HTZ ⊢
  have HFF := Aside0.mk hf
  clear hf HTZ HA hnot hu heq cn
  go_loopg [27] n (fun gg s27 wr => ∃ x : Nat, s27 = .int .i64 x ∧ Aside0 (x + gg = n) ∧ Aside0 (J (pre ++ visTo n a d b F x) wr) ∧ Aside0 (cont = true ∨ visTo n a d b F x = []) ∧ Aside0 (KeepB S w wr))
  case atStart => exact ⟨0, rfl, ⟨by omega⟩, ⟨by show J (pre ++ []) _; rw [List.append_nil]; exact HJD.out _ _ _ HJ.out⟩, ⟨.inr rfl⟩, ⟨KeepB.drew S w _⟩⟩
  case round =>
    obtain ⟨x, rfl, HX, HJX, HC, HK⟩ := hrel
    by_cases hlt : x < n
    · have hltz : (x : Int) < (n : Int) := by omega
      have cn := (HB.out.keep HK.out).cn
      have ca := (HB.out.keep HK.out).ca
      have cf := (HB.out.keep HK.out).cf
      obtain ⟨sh, hsh, hbit⟩ := bit_shr HN2.out HAA.out (show x ≤ 64 by omega)
      have hx64 : x ≤ 64 := by omega
      have hfn : f < n := HFS.out
      have HS := Aside0.mk (visTo_succ n a d b F x)
      have HO := Aside0.mk (show visOne n a d b F x = match stA n a f x with
        | some k => if moveN n a k &&& F = 0 then vis n a (stA n a) d (b ||| 2 ^ k) (F ||| moveN n a k) else []
        | none => [] by unfold visOne; rw [HFF.out])
      cases hab : a.testBit x with
      | false =>
        rw [hab, if_neg (by decide)] at hbit
        have HO2 := Aside0.mk (show visOne n a d b F x = [] by rw [HO.out]; unfold stA; rw [hab]; rfl)
        clear hab
        go_wp2
        go_roundg (gk - 1)
        case measure => have := HX.out; omega
        case rel =>
          refine ⟨x + 1, by go_num, ⟨by have := HX.out; omega⟩, ⟨?_⟩, ⟨?_⟩, HK⟩
          · rw [HS.out, HO2.out, List.append_nil]; exact HJX.out
          · rw [HS.out, HO2.out, List.append_nil]; exact HC.out
      | true =>
        rw [hab, if_pos rfl] at hbit
        obtain ⟨e1, e2, e3, e4, e5⟩ := round_nums HN2.out HAA.out HF.out HFS.out hlt
        have HO1 := Aside0.mk (show visOne n a d b F x = if moveN n a ((f + (n - x)) % n) &&& F = 0 then vis n a (stA n a) d (b ||| 2 ^ ((f + (n - x)) % n)) (F ||| moveN n a ((f + (n - x)) % n)) else [] by
          rw [HO.out]; unfold stA; rw [hab]; rfl)
        have HMV := Aside0.mk e4
        have hk : (f + (n - x)) % n < n := Nat.mod_lt _ (by omega)
        have HSF := Aside0.mk (show (moveN n a ((f + (n - x)) % n)).testBit (freeAt n F) = true by
          rw [HFF.out]; exact ((stepOk_A HAA.out).1 f x _ HFS.out hlt (by unfold stA; rw [hab]; rfl)).2)
        clear hab e4
        generalize hkk : (f + (n - x)) % n = k at *
        generalize hmm : moveN n a k = m at *
        have HMM := Aside0.mk hmm
        have hm0 : (0 : Int) ≤ (k : Int) := by omega
        clear hkk hmm
        have hk64 : k ≤ 64 := by omega
        by_cases hz : m &&& F = 0
        · have e6 : (((m &&& F : Nat) : Int) == 0) = true := by rw [hz]; rfl
          have HO2 := Aside0.mk (show visOne n a d b F x = vis n a (stA n a) d (b ||| 2 ^ k) (F ||| m) by rw [HO1.out, if_pos hz])
          have HK2 := Aside0.mk hk
          obtain ⟨p2, b2, F2, r1, r2, r3, r4, hb2, hF2⟩ := next_nums HN2.out HBB.out HF.out hk (HMM.out ▸ moveN_lt n a k)
          have hz' := Aside0.mk hz
          rw [hb2, hF2] at HO2
          have HCALL : ∀ q, Calls Tryd.prog 92 #[.int .i64 (b2 : Int), .int .i64 (F2 : Int), .pointer (some ⟨S, 0, none⟩), .pointer (some ⟨S + 1 + 1, 0, none⟩), .pointer (some ⟨S + 1, 0, none⟩), .pointer (some ⟨S + 1 + 1 + 1, 0, none⟩)] (wr.drewN q)
            (FillPost S J (pre ++ visTo n a d b F x) (vis n a (stA n a) d b2 F2) cont (wr.drewN q)) := fun q => by
            have := HI.out k (pre ++ visTo n a d b F x) (wr.drewN q) hk (by rw [HMM.out]; exact hz'.out) (by rw [HMM.out]; exact HSF.out) ((HB.out.keep HK.out).keep (KeepB.drew S wr q)) (HTB.out.heap (HK.out.2.trans rfl)) (HJD.out _ _ _ HJX.out)
            rw [HMM.out, hb2, hF2] at this
            exact this
          have HCALL := Aside0.mk HCALL
          clear hz hz' hb2 hF2 hk
          generalize vis n a (stA n a) d b2 F2 = V at HCALL HO2
          cases hc : (cont || V.isEmpty) with
          | true =>
            have HCQ := Aside0.mk (fun q1 => show Calls Tryd.prog 92 #[.int .i64 (b2 : Int), .int .i64 (F2 : Int), .pointer (some ⟨S, 0, none⟩), .pointer (some ⟨S + 1 + 1, 0, none⟩), .pointer (some ⟨S + 1, 0, none⟩), .pointer (some ⟨S + 1 + 1 + 1, 0, none⟩)] (wr.drewN q1).drew fun e w' => e = .returned (.bool true) ∧ J (pre ++ visTo n a d b F x ++ took cont V) w' ∧ KeepB S w w' from by
              rw [show (wr.drewN q1).drew = wr.drewN (q1 + 1) from rfl]
              exact (HCALL.out _).mono fun e w' h => ⟨h.1.trans (by rw [hc]), h.2.1, HK.out.trans ((KeepB.drew S wr _).trans h.2.2)⟩)
            have hfin := Aside0.mk (took_go hc HC.out)
            clear hc HCALL
            go_wp2_with (go_at_call 90; (with_reducible refine (canon_circle_move.calls _ _ _ _ _ HMV.out).mono ?_); rintro e w' ⟨rfl, ⟨q, rfl⟩⟩)
            have cfq : (wr.drewN q).cell? ⟨S + 1 + 1 + 1, 0, none⟩ = some (.func (.func 92) #[] #[.pointer (some ⟨S, 0, none⟩), .pointer (some ⟨S + 1 + 1, 0, none⟩), .pointer (some ⟨S + 1, 0, none⟩), .pointer (some ⟨S + 1 + 1 + 1, 0, none⟩)]) := cf
            have HCR := Aside0.mk (HCQ.out q)
            generalize wr.drewN q = Wq at cfq HCR ⊢
            clear cn ca cf HCQ
            go_still_tail 13, (by kernel_rfl)
            go_wp2_with ((with_reducible refine HCR.out.mono ?_); rintro e w' ⟨rfl, hj, hk2⟩)
            go_roundg (gk - 1)
            case measure => have := HX.out; omega
            case rel =>
              refine ⟨x + 1, by go_num, ⟨by have := HX.out; omega⟩, ⟨?_⟩, ⟨?_⟩, ⟨hk2⟩⟩
              · rw [HS.out, HO2.out, ← List.append_assoc]; rw [hfin.out.1] at hj; exact hj
              · rw [HS.out, HO2.out]; exact hfin.out.2
          | false =>
            have HCQ := Aside0.mk (fun q1 => show Calls Tryd.prog 92 #[.int .i64 (b2 : Int), .int .i64 (F2 : Int), .pointer (some ⟨S, 0, none⟩), .pointer (some ⟨S + 1 + 1, 0, none⟩), .pointer (some ⟨S + 1, 0, none⟩), .pointer (some ⟨S + 1 + 1 + 1, 0, none⟩)] (wr.drewN q1).drew fun e w' => e = .returned (.bool false) ∧ J (pre ++ visTo n a d b F x ++ took cont V) w' ∧ KeepB S w w' from by
              rw [show (wr.drewN q1).drew = wr.drewN (q1 + 1) from rfl]
              exact (HCALL.out _).mono fun e w' h => ⟨h.1.trans (by rw [hc]), h.2.1, HK.out.trans ((KeepB.drew S wr _).trans h.2.2)⟩)
            have hfin := Aside0.mk (took_stop hc HC.out (visTo_split n a d b F hlt) HO2.out)
            clear hc HCALL
            go_wp2_with (go_at_call 90; (with_reducible refine (canon_circle_move.calls _ _ _ _ _ HMV.out).mono ?_); rintro e w' ⟨rfl, ⟨q, rfl⟩⟩)
            have cfq : (wr.drewN q).cell? ⟨S + 1 + 1 + 1, 0, none⟩ = some (.func (.func 92) #[] #[.pointer (some ⟨S, 0, none⟩), .pointer (some ⟨S + 1 + 1, 0, none⟩), .pointer (some ⟨S + 1, 0, none⟩), .pointer (some ⟨S + 1 + 1 + 1, 0, none⟩)]) := cf
            have HCR := Aside0.mk (HCQ.out q)
            generalize wr.drewN q = Wq at cfq HCR ⊢
            clear cn ca cf HCQ
            go_still_tail 13, (by kernel_rfl)
            go_wp2_with ((with_reducible refine HCR.out.mono ?_); rintro e w' ⟨rfl, hj, hk2⟩)
            go_ret
            refine ⟨by rw [hfin.out.1]; rfl, ?_, hk2⟩
            rw [hfin.out.2.1, List.append_nil] at hj
            rw [hfin.out.2.2]; exact hj
        · have e6 : (((m &&& F : Nat) : Int) == 0) = false := beq_eq_false_iff_ne.2 (by omega)
          have HO2 := Aside0.mk (show visOne n a d b F x = [] by rw [HO1.out, if_neg hz])
          clear hz
          go_wp2_with (go_at_call 90; (with_reducible refine (canon_circle_move.calls _ _ _ _ _ HMV.out).mono ?_); rintro e w' ⟨rfl, ⟨q, rfl⟩⟩)
          go_quiet (fail)
          go_wp2
          go_roundg (gk - 1)
          case measure => have := HX.out; omega
          case rel =>
            refine ⟨x + 1, by go_num, ⟨by have := HX.out; omega⟩, ⟨?_⟩, ⟨?_⟩, ⟨HK.out.trans (KeepB.drew S wr _)⟩⟩
            · rw [HS.out, HO2.out, List.append_nil]; exact HJD.out _ _ _ HJX.out
            · rw [HS.out, HO2.out, List.append_nil]; exact HC.out
    · have hxn : x = n := by have := HX.out; omega
      have HXN := Aside0.mk hxn
      clear hxn
      have hltz : ¬ (x : Int) < (n : Int) := by omega
      go_wp2
      go_ret
      have hj := HJX.out
      have hc := HC.out
      rw [HXN.out] at hj hc
      refine ⟨?_, ?_, HK.out⟩
      · rcases hc with hc | hc <;> simp [hc]
      · rw [took_all hc]; exact hj
theorem fill_calls (eg : ∀ args w, (callFunc g args).run Tryd.prog w = .ok (.enter g args) w) (hn : 2 ≤ n) (hn2 : n ≤ 24) (ha : a < 2 ^ n) (h0 : a.testBit 0 = true) (hJd : ∀ s A q, J s A → J s (A.drewN q))
    (hm : ∀ (pre : List Nat) (b : Nat) (W : World), J pre W → b < 2 ^ n → (Tiled n a b ∧ b.testBit 0 = true) → Calls Tryd.prog g (#[.int .i64 (b : Int)] ++ lb) W fun e w' => e = .returned (.bool cont) ∧ J (pre ++ [b]) w' ∧ KeepB S W w') :
    ∀ (d b F : Nat) (pre : List Nat) (w : World), Part n a b F → b.testBit 0 = true → cnt n (fun i => !F.testBit i) < d → Boxes4 S n a g lb w → Tabs w → J pre w →
    Calls Tryd.prog 92 #[.int .i64 (b : Int), .int .i64 (F : Int), .pointer (some ⟨S, 0, none⟩), .pointer (some ⟨S + 1 + 1, 0, none⟩), .pointer (some ⟨S + 1, 0, none⟩), .pointer (some ⟨S + 1 + 1 + 1, 0, none⟩)] w
      (FillPost S J pre (vis n a (stA n a) d b F) cont w) := by
  intro d
  induction d with
  | zero => intro b F pre w _ _ hd; omega
  | succ d ih =>
    intro b F pre w hP hb0 hd hB hT hJ
    by_cases e : F = 2 ^ n - 1
    · exact fill_full S n a g lb cont J eg hn hn2 b F d pre w e hB (fun q => hm pre b _ (hJd _ _ _ hJ) hP.1 ⟨part_full hP e, hb0⟩)
    · obtain ⟨hf, hf0, _⟩ := freeAt_spec hP.2.1 e
      refine fill_free S n a g lb cont J eg hn hn2 ha b F d pre w hP e hB hT hJ hJd (fun k pre w hk hz hsf hB hT hJ => ?_)
      refine ih _ _ pre w (hP.add hk hz) (by rw [Nat.testBit_or, hb0, Bool.true_or]) ?_ hB hT hJ
      have := cnt_lt_of (p := fun i => !(F ||| moveN n a k).testBit i) (q := fun i => !F.testBit i) n (fun i _ hp => by
            rw [Nat.testBit_or] at hp; cases hq : F.testBit i <;> simp_all) (freeAt n F) hf (by rw [Nat.testBit_or, hsf]; simp) (by rw [hf0]; rfl)
      omega
set_option maxHeartbeats 2000000 in
theorem partners_calls (eg : ∀ args w, (callFunc g args).run Tryd.prog w = .ok (.enter g args) w) (hn : 2 ≤ n) (hn2 : n ≤ 24) (ha : a < 2 ^ n) (h0 : a.testBit 0 = true) (w : World) (hT : Tabs w) (hS : S = w.heap.size) (hJd : ∀ s A q, J s A → J s (A.drewN q))
    (hJ : ∀ W, Below S w W → J [] W)
    (hm : ∀ (pre : List Nat) (b : Nat) (W : World), J pre W → b < 2 ^ n → (Tiled n a b ∧ b.testBit 0 = true) → Calls Tryd.prog g (#[.int .i64 (b : Int)] ++ lb) W fun e w' => e = .returned (.bool cont) ∧ J (pre ++ [b]) w' ∧ KeepB S W w') :
    Calls Tryd.prog 59 #[.int .i64 (n : Int), .int .i64 (a : Int), .func (.func g) #[] lb] w fun e w' => (∃ v, e = .returned v) ∧ J (took cont (vis n a (stA n a) (n + 1) 1 a)) w' := by
  have HC := Aside0.mk (fill_calls S n a g lb cont J eg hn hn2 ha h0 hJd hm)
  have HJ := Aside0.mk hJ
  have HT := Aside0.mk hT
  have HP := Aside0.mk (Part.start (show 1 ≤ n by omega) ha)
  have HS := Aside0.mk hS
  have hmf : ∀ (fn : Fn) (first cap : Array Value) (w : World), (Instr.makeFunc fn first cap).run Tryd.prog w = .ok (.func fn first cap) w := fun _ _ _ _ => rfl
  clear hJ hT hm hJd hS hn hn2 ha h0
  go_enter Tryd.func59, Tryd.ntmps59
  go_wp2_with fail
  obtain ⟨W0, hW0⟩ : ∃ W0, (((w.alloc (.cells #[.int .i64 (n : Int)] 77)).alloc (.cells #[.int .i64 (a : Int)] 3)).alloc (.cells #[.func (.func g) #[] lb] 76)).alloc (.cells #[.func (.func 92) #[] #[.pointer (some ⟨w.heap.size, 0, none⟩), .pointer (some ⟨w.heap.size + 1 + 1, 0, none⟩), .pointer (some ⟨w.heap.size + 1, 0, none⟩), .pointer (some ⟨w.heap.size + 1 + 1 + 1, 0, none⟩)]] 40) = W0 := ⟨_, rfl⟩
  obtain ⟨c0, c1, c2, c3, -, -, -, B0⟩ := four_new w _ _ _ _ _ _ _ _ S HS.out W0 hW0
  rw [hW0, ← HS.out]
  rw [← HS.out] at c3
  have hrun := HC.out (n + 1) 1 a [] W0 HP.out (by decide) start_cnt ⟨c0, c1, c2, c3⟩ (HT.out.below (HS.out ▸ B0)) (HJ.out W0 B0)
  clear hW0 c0 c1 c2 c3 B0 HJ HC
  refine hrun.mono ?_
  rintro e w' ⟨rfl, hj, hk⟩
  generalize (cont || (vis n a (stA n a) (n + 1) 1 a).isEmpty) = bb
  go_wp2
  go_end0
  exact ⟨⟨_, rfl⟩, hj⟩
end

end Go.Proofs.YtfpnojcbhbkfaaaDoor.P
namespace Go.Proofs.YtfpnojcbhbkfaaaDoor.P
open Go.RowKit Go.Proofs.YtfpnojcbhbkfaaaDoorW.PrintWords Go.Proofs.YtfpnojcbhbkfaaaDoorW.PrintLast Go.Proofs.YtfpnojcbhbkfaaaDoorW.PrintMore
attribute [local go_sem] max2_int min2_int max_two min_two max_three min_three max_four min_four   -- for this text's walks alone
set_option linter.unusedVariables false
set_option linter.unusedSimpArgs false

/-! canon.Partner and canon.Partners: the least of all partners, and how many there are -/
def PL (n a : Nat) : List Nat := vis n a (stA n a) (n + 1) 1 a
def minStep (m b : Nat) : Nat := if m = 0 ∨ b < m then b else m
def minB (l : List Nat) : Nat := l.foldl minStep 0
def minI (l : List Nat) : Int := ((minB l : Nat) : Int)
def lenI (l : List Nat) : Int := wrap64 ((l.length : Nat) : Int)
def canon_Partner.f (a0 a1 : Int) : Option (Int × Int) := if ValidR a0 a1 then (if minI (PL a0.toNat a1.toNat) = 0 then some (0, 4) else some (minI (PL a0.toNat a1.toNat), 0)) else some (0, 2)
theorem minB_snoc (l : List Nat) (b : Nat) : minB (l ++ [b]) = minStep (minB l) b := by unfold minB; rw [List.foldl_append]; rfl
theorem lenI_nil : lenI [] = 0 := by unfold lenI wrap64; decide
theorem minI_nil : minI [] = 0 := rfl
theorem lenI_snoc (l : List Nat) (b : Nat) : lenI (l ++ [b]) = wrap64 (lenI l + 1) := by
  unfold lenI
  rw [List.length_append, List.length_singleton]
  unfold wrap64
  omega
def StepsOut (f : List Nat → Int) (g : Nat) : Prop := ∀ (pre : List Nat) (b : Nat) (W : World) (B : Nat), W.cell? ⟨B, 0, none⟩ = some (.int .i64 (f pre)) → W.frozen? ⟨B, 0, none⟩ = false →
  Calls Tryd.prog g #[.int .i64 (b : Int), .pointer (some ⟨B, 0, none⟩)] W fun e w' => e = .returned (.bool true) ∧ ((w' = W.setCell ⟨B, 0, none⟩ (.int .i64 (f (pre ++ [b])))) ∨ (w' = W ∧ f (pre ++ [b]) = f pre))
theorem partner_more : StepsOut minI 60 := by
  intro pre b W B hc hf
  have HL := Aside0.mk (show minI (pre ++ [b]) = ((minStep (minB pre) b : Nat) : Int) by unfold minI; rw [minB_snoc])
  have HM := Aside0.mk (show minI pre = ((minB pre : Nat) : Int) from rfl)
  rw [HM.out] at hc
  generalize hm : minB pre = m at hc HL HM
  clear hm
  by_cases hz : m = 0
  · have e1 : ((m : Int) == 0) = true := by rw [hz]; rfl
    have HL2 := Aside0.mk (show minI (pre ++ [b]) = (b : Int) by rw [HL.out]; unfold minStep; rw [if_pos (.inl hz)])
    clear hz HL
    go_enter Tryd.func60, Tryd.ntmps60
    go_wp2
    go_ret
    refine ⟨rfl, .inl ?_⟩
    rw [HL2.out]
  · have e1 : ((m : Int) == 0) = false := beq_eq_false_iff_ne.2 (by omega)
    by_cases hl : b < m
    · have e2 : decide ((b : Int) < (m : Int)) = true := decide_eq_true (by omega)
      have e3 : decide (b < m) = true := decide_eq_true hl
      have HL2 := Aside0.mk (show minI (pre ++ [b]) = (b : Int) by rw [HL.out]; unfold minStep; rw [if_pos (.inr hl)])
      clear hz HL hl
      go_enter Tryd.func60, Tryd.ntmps60
      go_wp2
      go_ret
      refine ⟨rfl, .inl ?_⟩
      rw [HL2.out]
    · have e2 : decide ((b : Int) < (m : Int)) = false := decide_eq_false (by omega)
      have e3 : decide (b < m) = false := decide_eq_false hl
      have HL2 := Aside0.mk (show minI (pre ++ [b]) = minI pre by rw [HL.out, HM.out]; unfold minStep; rw [if_neg (fun h => h.elim hz hl)])
      clear hz HL hl
      go_enter Tryd.func60, Tryd.ntmps60
      go_wp2
      go_ret
      exact ⟨rfl, .inr ⟨rfl, HL2.out⟩⟩
theorem out_run (f : List Nat → Int) (g : Nat) (hg : StepsOut f g) (eg : ∀ args w, (callFunc g args).run Tryd.prog w = .ok (.enter g args) w) (hf0 : f [] = 0) {a0 a1 : Int} (hc : ValidR a0 a1) (w : World) (hT : Tabs w) (w2 : World) (hb : Below w.heap.size w w2) :
    Calls Tryd.prog 59 #[.int .i64 a0, .int .i64 a1, .func (.func g) #[] #[.pointer (some ⟨w2.heap.size, 0, none⟩)]] (w2.alloc (.cells #[.int .i64 0] 3)) fun e w' => (∃ v, e = .returned v) ∧
      w'.cell? ⟨w2.heap.size, 0, none⟩ = some (.int .i64 (f (PL a0.toNat a1.toNat))) ∧ Below w.heap.size w w' := by
  obtain ⟨n, a, rfl, rfl, hn, hn2, ha, h0⟩ := validR_nat hc
  obtain ⟨B, hB⟩ : ∃ B, B = w2.heap.size := ⟨_, rfl⟩
  rw [← hB]
  have hB1 : 1 < B := by rw [hB]; exact Nat.lt_of_lt_of_le hT.size hb.size
  have hwB : w.heap.size ≤ B := by rw [hB]; exact hb.size
  have hnew := new_cell w2 (.int .i64 0) 3
  rw [← hB] at hnew
  have hsz : (w2.alloc (.cells #[.int .i64 0] 3)).heap.size = B + 1 := by rw [World.size_alloc, ← hB]
  have hbw : Below w.heap.size w (w2.alloc (.cells #[.int .i64 0] 3)) := below_alloc hb _
  refine (partners_calls (B + 1) n a g #[.pointer (some ⟨B, 0, none⟩)] true (fun pre W => W.cell? ⟨B, 0, none⟩ = some (.int .i64 (f pre)) ∧ W.frozen? ⟨B, 0, none⟩ = false ∧ Below w.heap.size w W) eg hn hn2 ha h0 _ (hT.below hbw) hsz.symm ?_ ?_ ?_).mono ?_
  · rintro s A q ⟨h1, h2, h3⟩
    exact ⟨h1, h2, pw_below_drewN h3 q⟩
  · intro W hW
    refine ⟨?_, ?_, hbw.trans (hW.mono (by omega))⟩
    · rw [hf0]; exact (hW.cell (p := ⟨B, 0, none⟩) (by simp)).trans hnew.1
    · exact (hW.frozen (p := ⟨B, 0, none⟩) (by simp)).trans hnew.2
  · rintro pre b W ⟨h1, h2, h3⟩ _ _
    refine (hg pre b W B h1 h2).mono ?_
    rintro e w' ⟨rfl, (rfl | ⟨rfl, h⟩)⟩
    · refine ⟨rfl, ⟨World.cell?_setCell_same' _ _ _ (by rw [h1]; rfl), by rw [World.frozen?_setCell]; exact h2, h3.setCell (p := ⟨B, 0, none⟩) hwB _⟩, fun i hi _ => Below.heap_setCell W ⟨B, 0, none⟩ _ i (by simp only [ne_eq]; omega), Below.heap_setCell W ⟨B, 0, none⟩ _ 1 (by simp only [ne_eq]; omega)⟩
    · exact ⟨rfl, ⟨by rw [h]; exact h1, h2, h3⟩, KeepB.refl _ _⟩
  · rintro e w' ⟨hv, h1, h2, h3⟩
    exact ⟨hv, h1, h3⟩
set_option maxHeartbeats 4000000 in
set_option maxRecDepth 100000 in
theorem canon_Partner.calls (a0 a1 r1 r2 : Int) (w : World) (hT : Tabs w) (h : canon_Partner.f a0 a1 = some (r1, r2)) :
    Calls Tryd.prog 23 #[.int .i64 a0, .int .i64 a1] w fun e w' => e = .returned (.tuple #[.int .i64 r1, .int .i64 r2]) ∧ Below w.heap.size w w' := by
  have HB := Aside0.mk (Below.refl w.heap.size w)
  have HT := Aside0.mk hT
  unfold canon_Partner.f at h
  have hv := cvalid1_f a0 a1
  obtain ⟨y, hy⟩ : ∃ y : List Int, y = [a1] := ⟨_, rfl⟩
  rw [← hy] at hv
  have HY := Aside0.mk hy
  clear hy hT
  have hmf : ∀ (fn : Fn) (first cap : Array Value) (w : World), (Instr.makeFunc fn first cap).run Tryd.prog w = .ok (.func fn first cap) w := fun _ _ _ _ => rfl
  by_cases hc : ValidR a0 a1
  · rw [decide_eq_true hc] at hv
    rw [if_pos hc] at h
    have HV := Aside0.mk hv
    have HRUN := Aside0.mk (fun (w2 : World) (hb2 : Below w.heap.size w w2) => out_run minI 60 partner_more (enters_of Tryd.func60 (by kernel_rfl) rfl) minI_nil hc w HT.out w2 hb2)
    obtain ⟨v, hv2⟩ : ∃ v, minI (PL a0.toNat a1.toNat) = v := ⟨_, rfl⟩
    rw [hv2] at h HRUN
    clear hv hc hv2
    by_cases hz : v = 0
    · rw [if_pos hz] at h
      simp only [Option.some.injEq, Prod.mk.injEq] at h
      obtain ⟨rfl, rfl⟩ := h
      have hz2 : (v == 0) = true := by rw [hz]; rfl
      clear hz
      go_enter Tryd.func23, Tryd.ntmps23
      go_wp2_with (first | ((with_reducible refine gate_dst (N := 9) rfl ?_); refine Kd.R_lit (Kd.int .i64) _ 3 ?hg (N := 9) ?hd (xs := ([a1] : List Int)) (inner := [.int .i64 a1]) (ok := fun _ => True) (okp := fun _ => True) ?hr ?hp (fun _ hk => hk) trivial (Below.refl _ _) (Nat.le_refl _) (by simp) ?_; (case hd => rfl); (case hg => rfl); (case hr => first | (go_simp; done) | (go_simp; rfl)); (case hp => exact (Reps.one (show Kd.M (Kd.int .i64) _ _ _ a1 [.int .i64 a1] from rfl) (Reps.none _ _))); intro v1002 w7 ho8 hb hg_ hnew_; clear hg_ hnew_; rw [← HY.out] at ho8; have n0_ := Aside0.mk (Kd.R_lower ho8 (below_size (by repeat (first | (with_reducible first | exact HB.out | apply below_alloc | apply pw_below_drewN | apply below_drew1) | exact HB.out)))); have n1_ := Aside0.mk (below_step (by repeat (first | (with_reducible first | exact HB.out | apply below_alloc | apply pw_below_drewN | apply below_drew1) | exact HB.out)) hb); clear HB; have HO := n0_; have HB := n1_; clear n0_ n1_; clear hb ho8; obtain ⟨Ao9, co9, eo9⟩ := Kd.R_slice HO.out; subst eo9) | ((with_reducible refine gate_callee (f := 56) rfl ?_); refine goesL_ (some 10) rfl rfl Tryd.func56 (by kernel_rfl) rfl #[.int .i64 a0, .slice Ao9 y.length co9] rfl (by (try simp only [List.map_toArray, List.map_cons, List.map_nil]); first | done | rfl) ?_; (with_reducible refine (canon_circle_valid.calls a0 _ _ y true _ ?side1 ?side2 HV.out).mono ?_); (case side1 => repeat (first | exact (Kd.R_reads' HO.out).2.2 | (with_reducible refine Kd.C_alloc ?_ _) | (with_reducible refine Kd.C_drewN ?_ _) | (with_reducible refine Kd.C_drew ?_))); (case side2 => exact (Kd.R_reads' HO.out).2.1); rintro e w10 ⟨rfl, hb⟩; refine ⟨_, rfl, ?_⟩; have n0_ := Aside0.mk (below_step (by repeat (first | (with_reducible first | exact HB.out | apply below_alloc | apply pw_below_drewN | apply below_drew1) | exact HB.out)) hb); clear HB HO; have HB := n0_; clear n0_ hb))
      refine (HRUN.out _ HB.out).mono ?_
      rintro e w12 ⟨⟨rv, rfl⟩, hcell, hb⟩
      clear HB
      have HB := Aside0.mk hb
      clear hb
      go_wp2
      go_ret2
      exact ⟨by first | rfl | simp, HB.out⟩
    · rw [if_neg hz] at h
      simp only [Option.some.injEq, Prod.mk.injEq] at h
      obtain ⟨rfl, rfl⟩ := h
      have hz2 : (v == 0) = false := beq_eq_false_iff_ne.2 hz
      clear hz
      go_enter Tryd.func23, Tryd.ntmps23
      go_wp2_with (first | ((with_reducible refine gate_dst (N := 9) rfl ?_); refine Kd.R_lit (Kd.int .i64) _ 3 ?hg (N := 9) ?hd (xs := ([a1] : List Int)) (inner := [.int .i64 a1]) (ok := fun _ => True) (okp := fun _ => True) ?hr ?hp (fun _ hk => hk) trivial (Below.refl _ _) (Nat.le_refl _) (by simp) ?_; (case hd => rfl); (case hg => rfl); (case hr => first | (go_simp; done) | (go_simp; rfl)); (case hp => exact (Reps.one (show Kd.M (Kd.int .i64) _ _ _ a1 [.int .i64 a1] from rfl) (Reps.none _ _))); intro v1002 w7 ho8 hb hg_ hnew_; clear hg_ hnew_; rw [← HY.out] at ho8; have n0_ := Aside0.mk (Kd.R_lower ho8 (below_size (by repeat (first | (with_reducible first | exact HB.out | apply below_alloc | apply pw_below_drewN | apply below_drew1) | exact HB.out)))); have n1_ := Aside0.mk (below_step (by repeat (first | (with_reducible first | exact HB.out | apply below_alloc | apply pw_below_drewN | apply below_drew1) | exact HB.out)) hb); clear HB; have HO := n0_; have HB := n1_; clear n0_ n1_; clear hb ho8; obtain ⟨Ao9, co9, eo9⟩ := Kd.R_slice HO.out; subst eo9) | ((with_reducible refine gate_callee (f := 56) rfl ?_); refine goesL_ (some 10) rfl rfl Tryd.func56 (by kernel_rfl) rfl #[.int .i64 a0, .slice Ao9 y.length co9] rfl (by (try simp only [List.map_toArray, List.map_cons, List.map_nil]); first | done | rfl) ?_; (with_reducible refine (canon_circle_valid.calls a0 _ _ y true _ ?side1 ?side2 HV.out).mono ?_); (case side1 => repeat (first | exact (Kd.R_reads' HO.out).2.2 | (with_reducible refine Kd.C_alloc ?_ _) | (with_reducible refine Kd.C_drewN ?_ _) | (with_reducible refine Kd.C_drew ?_))); (case side2 => exact (Kd.R_reads' HO.out).2.1); rintro e w10 ⟨rfl, hb⟩; refine ⟨_, rfl, ?_⟩; have n0_ := Aside0.mk (below_step (by repeat (first | (with_reducible first | exact HB.out | apply below_alloc | apply pw_below_drewN | apply below_drew1) | exact HB.out)) hb); clear HB HO; have HB := n0_; clear n0_ hb))
      refine (HRUN.out _ HB.out).mono ?_
      rintro e w12 ⟨⟨rv, rfl⟩, hcell, hb⟩
      clear HB
      have HB := Aside0.mk hb
      clear hb
      go_wp2
      go_ret2
      exact ⟨by first | rfl | simp, HB.out⟩
  · rw [decide_eq_false hc] at hv
    rw [if_neg hc] at h
    have HV := Aside0.mk hv
    simp only [Option.some.injEq, Prod.mk.injEq] at h
    obtain ⟨rfl, rfl⟩ := h
    clear hv hc
    go_enter Tryd.func23, Tryd.ntmps23
    go_wp2_with (first | ((with_reducible refine gate_dst (N := 9) rfl ?_); refine Kd.R_lit (Kd.int .i64) _ 3 ?hg (N := 9) ?hd (xs := ([a1] : List Int)) (inner := [.int .i64 a1]) (ok := fun _ => True) (okp := fun _ => True) ?hr ?hp (fun _ hk => hk) trivial (Below.refl _ _) (Nat.le_refl _) (by simp) ?_; (case hd => rfl); (case hg => rfl); (case hr => first | (go_simp; done) | (go_simp; rfl)); (case hp => exact (Reps.one (show Kd.M (Kd.int .i64) _ _ _ a1 [.int .i64 a1] from rfl) (Reps.none _ _))); intro v1002 w7 ho8 hb hg_ hnew_; clear hg_ hnew_; rw [← HY.out] at ho8; have n0_ := Aside0.mk (Kd.R_lower ho8 (below_size (by repeat (first | (with_reducible first | exact HB.out | apply below_alloc | apply pw_below_drewN | apply below_drew1) | exact HB.out)))); have n1_ := Aside0.mk (below_step (by repeat (first | (with_reducible first | exact HB.out | apply below_alloc | apply pw_below_drewN | apply below_drew1) | exact HB.out)) hb); clear HB; have HO := n0_; have HB := n1_; clear n0_ n1_; clear hb ho8; obtain ⟨Ao9, co9, eo9⟩ := Kd.R_slice HO.out; subst eo9) | ((with_reducible refine gate_callee (f := 56) rfl ?_); refine goesL_ (some 10) rfl rfl Tryd.func56 (by kernel_rfl) rfl #[.int .i64 a0, .slice Ao9 y.length co9] rfl (by (try simp only [List.map_toArray, List.map_cons, List.map_nil]); first | done | rfl) ?_; (with_reducible refine (canon_circle_valid.calls a0 _ _ y false _ ?side1 ?side2 HV.out).mono ?_); (case side1 => repeat (first | exact (Kd.R_reads' HO.out).2.2 | (with_reducible refine Kd.C_alloc ?_ _) | (with_reducible refine Kd.C_drewN ?_ _) | (with_reducible refine Kd.C_drew ?_))); (case side2 => exact (Kd.R_reads' HO.out).2.1); rintro e w10 ⟨rfl, hb⟩; refine ⟨_, rfl, ?_⟩; have n0_ := Aside0.mk (below_step (by repeat (first | (with_reducible first | exact HB.out | apply below_alloc | apply pw_below_drewN | apply below_drew1) | exact HB.out)) hb); clear HB HO; have HB := n0_; clear n0_ hb))
    go_ret2
    exact ⟨by first | rfl | simp, (by repeat (first | (with_reducible first | exact HB.out | apply below_alloc | apply pw_below_drewN | apply below_drew1) | exact HB.out))⟩

end Go.Proofs.YtfpnojcbhbkfaaaDoor.P
namespace Go.Proofs.YtfpnojcbhbkfaaaDoor.P
open Go.RowKit Go.Proofs.YtfpnojcbhbkfaaaDoorW.PrintWords Go.Proofs.YtfpnojcbhbkfaaaDoorW.PrintLast Go.Proofs.YtfpnojcbhbkfaaaDoorW.PrintMore
attribute [local go_sem] max2_int min2_int max_two min_two max_three min_three max_four min_four   -- for this text's walks alone
set_option linter.unusedVariables false
set_option linter.unusedSimpArgs false

/-! slices.Min and Max at ints, where there is an element -/
def minL : List Int → Int
  | [] => 0
  | x :: l => l.foldl min x
def maxL : List Int → Int
  | [] => 0
  | x :: l => l.foldl max x
def slices_Min_int_int.f (l0 : List Int) : Option Int := if l0.length < 1 then none else some (minL l0)
def slices_Max_int_int.f (l0 : List Int) : Option Int := if l0.length < 1 then none else some (maxL l0)
theorem minL_take {l : List Int} {k : Nat} (h : k < l.length) (h1 : 1 ≤ k) : min (minL (l.take k)) l[k] = minL (l.take (k + 1)) := by
  rw [List.take_succ_eq_append_getElem h]
  cases l with
  | nil => simp at h
  | cons x l =>
    obtain ⟨j, rfl⟩ : ∃ j, k = j + 1 := ⟨k - 1, by omega⟩
    simp only [List.take_succ_cons, List.cons_append, minL, List.foldl_append, List.foldl_cons, List.foldl_nil]
theorem maxL_take {l : List Int} {k : Nat} (h : k < l.length) (h1 : 1 ≤ k) : max (maxL (l.take k)) l[k] = maxL (l.take (k + 1)) := by
  rw [List.take_succ_eq_append_getElem h]
  cases l with
  | nil => simp at h
  | cons x l =>
    obtain ⟨j, rfl⟩ : ∃ j, k = j + 1 := ⟨k - 1, by omega⟩
    simp only [List.take_succ_cons, List.cons_append, maxL, List.foldl_append, List.foldl_cons, List.foldl_nil]
set_option maxHeartbeats 2000000 in
set_option maxRecDepth 100000 in
theorem slices_Min_int_int.calls (A0 : Option Addr) (c0 : Nat) (l0 : List Int) (r : Int) (w : World) (hr0 : Kd.C (Kd.int .i64) w A0 l0.length l0) (_ : l0.length ≤ c0) (h : slices_Min_int_int.f l0 = some r) :
    Calls Tryd.prog 101 #[.slice A0 l0.length c0] w fun e w' => e = .returned (.int .i64 r) ∧ Drawn0 w w' := by
  unfold slices_Min_int_int.f at h
  by_cases hc : l0.length < 1
  · rw [if_pos hc] at h; cases h
  · rw [if_neg hc] at h
    have hres := Option.some.inj h
    have hm : l0.length ≤ 9223372036854775807 := Kd.C_max hr0
    have HR := Aside0.mk hr0
    have HH := Aside0.mk hres
    have q1 : decide (l0.length < 1) = false := decide_eq_false hc
    have q2 : decide ((l0.length : Int) < 1) = false := decide_eq_false (by omega)
    have hpos : 0 < l0.length := by omega
    have hposz : (0 : Int) < (l0.length : Int) := by omega
    obtain ⟨ad, ead, hcell0⟩ := Kd.at_int hr0 0 (by omega) hposz
    have HE := Aside0.mk (show ∃ x l, l0 = x :: l ∧ rd l0 0 = x from by
      cases l0 with
      | nil => simp at hpos
      | cons x l => exact ⟨x, l, rfl, rfl⟩)
    obtain ⟨x, hx⟩ : ∃ x, rd l0 0 = x := ⟨_, rfl⟩
    rw [hx] at hcell0 HE
    have hcell1 : w.cell? ad = some (.int .i64 x) := by rw [← hcell0]; congr 1
    cases ead
    clear hr0 h hres hc hx hcell0
    go_enter Tryd.func101, Tryd.ntmps101
    go_wp2
    go_loopg [3, 4] l0.length (fun gg s3 s4 wr => ∃ (kk q : Nat) (v : Int), s4 = .int .i64 kk ∧ s3 = .int .i64 v ∧ wr = w.drewN q ∧ Aside0 (kk + gg = l0.length + 1) ∧ Aside0 (1 ≤ kk) ∧ Aside0 (v = minL (l0.take kk)))
    case atStart => exact ⟨1, _, x, rfl, rfl, by first | rfl | exact (World.drewN_zero _).symm | (apply Eq.symm; apply World.drewN_zero), ⟨by omega⟩, ⟨by omega⟩, ⟨by obtain ⟨y, l, h1, h2⟩ := HE.out; subst h1; subst h2; rfl⟩⟩
    case round =>
      obtain ⟨kk, q, v, rfl, rfl, rfl, HK, H1, HV⟩ := hrel
      by_cases hlt : kk < l0.length
      · have hltz : (kk : Int) < (l0.length : Int) := by omega
        obtain ⟨ad2, ead, hcellk⟩ := Kd.at_int HR.out (kk : Int) (by omega) hltz
        rw [rd_get hlt] at hcellk
        rw [Int.toNat_natCast] at hcellk
        cases ead
        generalize hy : l0[kk] = y at hcellk
        have Hy := Aside0.mk hy
        clear hy hcell1
        go_wp2
        all_goals
          go_roundg (gk - 1)
          case measure => have := HK.out; omega
          case rel =>
            refine ⟨kk + 1, q, min v y, by go_num, by first | rfl | (congr 1; omega), by first | rfl | simp, ⟨by have := HK.out; omega⟩, ⟨by omega⟩, ⟨?_⟩⟩
            rw [HV.out, ← Hy.out]
            exact minL_take hlt H1.out
      · have hltz : ¬ (kk : Int) < (l0.length : Int) := by omega
        clear hcell1
        go_wp2
        go_ret
        refine ⟨?_, ⟨_, rfl⟩⟩
        have h1 := HV.out
        rw [List.take_of_length_le (by omega), HH.out] at h1
        rw [h1]; first | rfl | simp
set_option maxHeartbeats 2000000 in
set_option maxRecDepth 100000 in
theorem slices_Max_int_int.calls (A0 : Option Addr) (c0 : Nat) (l0 : List Int) (r : Int) (w : World) (hr0 : Kd.C (Kd.int .i64) w A0 l0.length l0) (_ : l0.length ≤ c0) (h : slices_Max_int_int.f l0 = some r) :
    Calls Tryd.prog 102 #[.slice A0 l0.length c0] w fun e w' => e = .returned (.int .i64 r) ∧ Drawn0 w w' := by
  unfold slices_Max_int_int.f at h
  by_cases hc : l0.length < 1
  · rw [if_pos hc] at h; cases h
  · rw [if_neg hc] at h
    have hres := Option.some.inj h
    have hm : l0.length ≤ 9223372036854775807 := Kd.C_max hr0
    have HR := Aside0.mk hr0
    have HH := Aside0.mk hres
    have q1 : decide (l0.length < 1) = false := decide_eq_false hc
    have q2 : decide ((l0.length : Int) < 1) = false := decide_eq_false (by omega)
    have hpos : 0 < l0.length := by omega
    have hposz : (0 : Int) < (l0.length : Int) := by omega
    obtain ⟨ad, ead, hcell0⟩ := Kd.at_int hr0 0 (by omega) hposz
    have HE := Aside0.mk (show ∃ x l, l0 = x :: l ∧ rd l0 0 = x from by
      cases l0 with
      | nil => simp at hpos
      | cons x l => exact ⟨x, l, rfl, rfl⟩)
    obtain ⟨x, hx⟩ : ∃ x, rd l0 0 = x := ⟨_, rfl⟩
    rw [hx] at hcell0 HE
    have hcell1 : w.cell? ad = some (.int .i64 x) := by rw [← hcell0]; congr 1
    cases ead
    clear hr0 h hres hc hx hcell0
    go_enter Tryd.func102, Tryd.ntmps102
    go_wp2
    go_loopg [3, 4] l0.length (fun gg s3 s4 wr => ∃ (kk q : Nat) (v : Int), s4 = .int .i64 kk ∧ s3 = .int .i64 v ∧ wr = w.drewN q ∧ Aside0 (kk + gg = l0.length + 1) ∧ Aside0 (1 ≤ kk) ∧ Aside0 (v = maxL (l0.take kk)))
    case atStart => exact ⟨1, _, x, rfl, rfl, by first | rfl | exact (World.drewN_zero _).symm | (apply Eq.symm; apply World.drewN_zero), ⟨by omega⟩, ⟨by omega⟩, ⟨by obtain ⟨y, l, h1, h2⟩ := HE.out; subst h1; subst h2; rfl⟩⟩
    case round =>
      obtain ⟨kk, q, v, rfl, rfl, rfl, HK, H1, HV⟩ := hrel
      by_cases hlt : kk < l0.length
      · have hltz : (kk : Int) < (l0.length : Int) := by omega
        obtain ⟨ad2, ead, hcellk⟩ := Kd.at_int HR.out (kk : Int) (by omega) hltz
        rw [rd_get hlt] at hcellk
        rw [Int.toNat_natCast] at hcellk
        cases ead
        generalize hy : l0[kk] = y at hcellk
        have Hy := Aside0.mk hy
        clear hy hcell1
        go_wp2
        all_goals
          go_roundg (gk - 1)
          case measure => have := HK.out; omega
          case rel =>
            refine ⟨kk + 1, q, max v y, by go_num, by first | rfl | (congr 1; omega), by first | rfl | simp, ⟨by have := HK.out; omega⟩, ⟨by omega⟩, ⟨?_⟩⟩
            rw [HV.out, ← Hy.out]
            exact maxL_take hlt H1.out
      · have hltz : ¬ (kk : Int) < (l0.length : Int) := by omega
        clear hcell1
        go_wp2
        go_ret
        refine ⟨?_, ⟨_, rfl⟩⟩
        have h1 := HV.out
        rw [List.take_of_length_le (by omega), HH.out] at h1
        rw [h1]; first | rfl | simp

end Go.Proofs.YtfpnojcbhbkfaaaDoor.P
namespace Go.Proofs.YtfpnojcbhbkfaaaDoor.P
open Go.RowKit Go.Proofs.YtfpnojcbhbkfaaaDoorW.PrintWords Go.Proofs.YtfpnojcbhbkfaaaDoorW.PrintLast Go.Proofs.YtfpnojcbhbkfaaaDoorW.PrintMore
attribute [local go_sem] max2_int min2_int max_two min_two max_three min_three max_four min_four   -- for this text's walks alone
set_option linter.unusedVariables false
set_option linter.unusedSimpArgs false

/-! wheels.field.wheel: a wheel made of a function's values -/
/-- Called with a number below n in any later world, the function value answers as p does. -/
def GivesNat (n g : Nat) (lb : Array Value) (p : Nat → Nat) (w : World) : Prop :=
  ∀ (W : World) (k : Nat), k < n → Below w.heap.size w W → Calls Tryd.prog g (#[.int .i64 (k : Int)] ++ lb) W fun e w' => e = .returned (.int .i64 (p k : Int)) ∧ Below W.heap.size W w'
/-- the wheel of a function's values -/
def wheelL (n q : Nat) (p : Nat → Nat) : List Int := (List.range n).map fun k => ((p k % q : Nat) : Int)
def wheelTo (n q : Nat) (p : Nat → Nat) (m : Nat) : List Int := (wheelL n q p).take m ++ List.replicate (n - m) 0
theorem wheelL_len (n q : Nat) (p : Nat → Nat) : (wheelL n q p).length = n := by unfold wheelL; simp
theorem wheelTo_len {n q : Nat} {p : Nat → Nat} {m : Nat} (h : m ≤ n) : (wheelTo n q p m).length = n := by unfold wheelTo; rw [List.length_append, List.length_take, wheelL_len, List.length_replicate]; omega
theorem wheelTo_zero (n q : Nat) (p : Nat → Nat) : wheelTo n q p 0 = List.replicate n 0 := by unfold wheelTo; simp
theorem wheelTo_all (n q : Nat) (p : Nat → Nat) : wheelTo n q p n = wheelL n q p := by
  unfold wheelTo
  rw [List.take_of_length_le (by rw [wheelL_len]; exact Nat.le_refl _), Nat.sub_self, List.replicate_zero, List.append_nil]
theorem wheelTo_set {n q : Nat} {p : Nat → Nat} {m : Nat} (h : m < n) : (wheelTo n q p m).set m ((p m % q : Nat) : Int) = wheelTo n q p (m + 1) := by
  have hl : ((wheelL n q p).take m).length = m := by rw [List.length_take, wheelL_len]; omega
  have e : (wheelL n q p).take (m + 1) = (wheelL n q p).take m ++ [((p m % q : Nat) : Int)] := by
    rw [List.take_succ_eq_append_getElem (by rw [wheelL_len]; exact h)]
    congr 2
    simp [wheelL]
  obtain ⟨d, hd⟩ : ∃ d, n - m = d + 1 := ⟨n - m - 1, by omega⟩
  unfold wheelTo
  rw [e, hd, show n - (m + 1) = d by omega, List.set_append_right _ _ (by omega), hl, Nat.sub_self, List.replicate_succ, List.set_cons_zero, List.append_assoc]
  rfl
theorem wheel_val {q pk : Nat} (hq0 : 1 ≤ q) (hq : q ≤ 1000000) : Int.tmod (wrap64 (Int.tmod (pk : Int) (q : Int) + (q : Int))) (q : Int) = ((pk % q : Nat) : Int) := by
  have h1 : Int.tmod (pk : Int) (q : Int) = ((pk % q : Nat) : Int) := by rw [Int.tmod_eq_emod_of_nonneg (by omega)]; exact (Int.natCast_emod _ _).symm
  have h2 := Nat.mod_lt pk hq0
  rw [h1, wrap_id (by omega) (by omega), ← Int.natCast_add, Int.tmod_eq_emod_of_nonneg (by omega), ← Int.natCast_emod, Nat.add_mod_right, Nat.mod_mod]
set_option maxHeartbeats 8000000 in
set_option maxRecDepth 100000 in
theorem wheel_calls (n q u g : Nat) (hn : n ≤ 100) (hq0 : 1 ≤ q) (hq : q ≤ 1000000) (lb : Array Value) (p : Nat → Nat) (hp : ∀ k, k < n → p k ≤ 1000000000000) (w : World) (eg : ∀ args w, (callFunc g args).run Tryd.prog w = .ok (.enter g args) w) (hg : GivesNat n g lb p w) :
    Calls Tryd.prog 72 #[.agg #[.int .i64 (n : Int), .int .i64 (q : Int), .int .i64 (u : Int)], .func (.func g) #[] lb] w fun e w' => ∃ v, e = .returned v ∧ Kd.R (Kd.int .i64) 3 w' w.heap.size (fun _ => True) v (wheelL n q p) ∧ Below w.heap.size w w' := by
  have HG := Aside0.mk hg
  have HP := Aside0.mk hp
  have HQ := Aside0.mk (And.intro hq0 hq)
  clear hg hp
  go_enter Tryd.func72, Tryd.ntmps72
  have hnn : (0 : Int) ≤ (n : Int) := by omega
  obtain ⟨W1, hW1⟩ : ∃ W1, W1 = w.alloc (.cells #[.int .i64 (n : Int), .int .i64 (q : Int), .int .i64 (u : Int)] 80) := ⟨_, rfl⟩
  have HF := Aside0.mk (show Below w.heap.size w W1 ∧ W1.heap.size = w.heap.size + 1 ∧ W1.cell? ⟨w.heap.size, 1, none⟩ = some (.int .i64 (q : Int)) from by
    have h : (w.alloc (.cells #[.int .i64 (n : Int), .int .i64 (q : Int), .int .i64 (u : Int)] 80)).heap[w.heap.size]? = some (.cells #[.int .i64 (n : Int), .int .i64 (q : Int), .int .i64 (u : Int)] 80) := by unfold World.alloc; exact Array.getElem?_push_size
    rw [hW1]
    refine ⟨below_alloc (Below.refl _ _) _, World.size_alloc _ _, ?_⟩
    unfold World.cell?
    simp only [h]
    rfl)
  go_wp2_with (first | ((with_reducible refine gate_dst (N := 9) rfl ?_); refine Kd.R_make (Kd.int .i64) _ 3 rfl (N := 9) rfl 22 _ _ rfl (n : Int) rfl rfl Tryd.underlying22 (.int .i64 0) 8 info3 rfl (by decide) (by omega) 0 (ok := fun _ => True) (okp := fun _ => True) rfl (fun _ hk => hk) trivial hnn (by rw [Int.toNat_natCast]; omega) (Below.refl _ _) (Nat.le_refl _) ?_; intro v9 w5 ho5 hb5 hg5 hn5; clear hg5 hn5; rw [Int.toNat_natCast, ← wheelTo_zero n q p, ← hW1] at ho5; rw [← hW1] at hb5; have HO := Aside0.mk ho5; have HB := Aside0.mk hb5; clear ho5 hb5 hW1; obtain ⟨A5, c5, e5⟩ := Kd.R_slice HO.out; rw [wheelTo_len (Nat.zero_le n)] at e5; subst e5))
  obtain ⟨F, hF⟩ : ∃ F, F = w.heap.size := ⟨_, rfl⟩
  have HI := Aside0.mk (show Kd.R (Kd.int .i64) 3 w5 (F + 1) (fun _ => True) (.slice A5 n c5) (wheelTo n q p 0) ∧ Below w.heap.size w w5 ∧ w5.cell? ⟨F, 1, none⟩ = some (.int .i64 (q : Int)) from by
    have h1 := HO.out
    have h2 := HB.out
    rw [HF.out.2.1] at h1
    rw [hF]
    exact ⟨h1, below_step HF.out.1 HB.out, (h2.cell (p := ⟨w.heap.size, 1, none⟩) (by have := HF.out.2.1; simp only; omega)).trans HF.out.2.2⟩)
  rw [← hF]
  have HFF := Aside0.mk hF
  clear HO HB HF hF
  go_loopg [12] n (fun gg s12 wr => ∃ k : Nat, s12 = .int .i64 (k : Int) ∧ k + gg = n ∧ Aside0 (Kd.R (Kd.int .i64) 3 wr (F + 1) (fun _ => True) (.slice A5 n c5) (wheelTo n q p k) ∧ Below w.heap.size w wr ∧ wr.cell? ⟨F, 1, none⟩ = some (.int .i64 (q : Int))))
  case atStart => exact ⟨0, rfl, by omega, HI⟩
  case round =>
    obtain ⟨k, rfl, hkg, HK⟩ := hrel
    by_cases hk : k < n
    · have hkz : (k : Int) < (n : Int) := by omega
      have hk0 : (0 : Int) ≤ (k : Int) := by omega
      have hR := HK.out.1
      obtain ⟨go, co, eo, gb, gl, cl, hG⟩ := Kd.R_form hR (by rw [wheelTo_len (by omega)]; omega)
      rw [wheelTo_len (by omega)] at eo
      injection eo with ea _ ec
      subst ea
      have HGB := Aside0.mk gb
      clear gb gl cl hG ec
      obtain ⟨pk, hpk⟩ : ∃ x, x = p k := ⟨_, rfl⟩
      have HPK := Aside0.mk (And.intro hpk (show pk ≤ 1000000000000 by rw [hpk]; exact HP.out k hk))
      have hFc := HK.out.2.2
      have hcall := HG.out wr.drew k hk (HK.out.2.1.drew)
      rw [← hpk] at hcall
      have HC := Aside0.mk hcall
      have hq0z : ¬ (q : Int) = 0 := by have := HQ.out.1; omega
      have hq0n : ¬ q = 0 := by have := HQ.out.1; omega
      clear hR hpk hcall
      go_wp2_with fail
      refine start_ (n := 16) (S := (fun w' => w'.cell? ⟨F, 1, none⟩ = some (.int .i64 (q : Int)))) (ds := [15]) #[false, false, false, false, false, false, false, false, false, false, false, false, false, false, false, false] (by kernel_rfl) rfl rfl hFc (fun _ => ?_)
      refine pure_ (i := 0) (N := some 15) (v := ?_) (a' := ?_) #[true, false, false, false, false, false, false, false, false, false, false, false, false, false, false, false] rfl rfl (by kernel_rfl) (fun _ _ _ h => h) (Or.inl ⟨by rfl, ?_⟩) ?_ ?_
      rotate_left
      · intro w'
        go_simp
        with_reducible rfl
      rotate_left
      · simp only [Act.put, List.setIfInBounds_toArray, List.set_cons_zero, List.set_cons_succ, i64_w, i32_w]
        rfl
      refine pure_ (i := 1) (N := some 16) (v := ?_) (a' := ?_) #[true, true, false, false, false, false, false, false, false, false, false, false, false, false, false, false] rfl rfl (by kernel_rfl) (fun _ _ _ h => h) (Or.inl ⟨by rfl, ?_⟩) ?_ ?_
      rotate_left
      · intro w'
        go_simp
        with_reducible rfl
      rotate_left
      · simp only [Act.put, List.setIfInBounds_toArray, List.set_cons_zero, List.set_cons_succ, i64_w, i32_w]
        rfl
      refine pure_ (i := 2) (N := some 17) (v := ?_) (a' := ?_) #[true, true, true, false, false, false, false, false, false, false, false, false, false, false, false, false] rfl rfl (by kernel_rfl) (fun _ _ _ h => h) (Or.inl ⟨by rfl, ?_⟩) ?_ ?_
      rotate_left
      · intro w'
        go_simp
        with_reducible rfl
      rotate_left
      · simp only [Act.put, List.setIfInBounds_toArray, List.set_cons_zero, List.set_cons_succ, i64_w, i32_w]
        rfl
      refine pure_ (i := 3) (N := some 18) (v := ?_) (a' := ?_) #[true, true, true, true, false, false, false, false, false, false, false, false, false, false, false, false] rfl rfl (by kernel_rfl) (fun _ _ _ h => h) (Or.inl ⟨by rfl, ?_⟩) ?_ ?_
      rotate_left
      · intro w'
        go_simp
        with_reducible rfl
      rotate_left
      · simp only [Act.put, List.setIfInBounds_toArray, List.set_cons_zero, List.set_cons_succ, i64_w, i32_w]
        rfl
      refine pure_ (i := 5) (N := some 20) (v := ?_) (a' := ?_) #[true, true, true, true, false, true, false, false, false, false, false, false, false, false, false, false] rfl rfl (by kernel_rfl) (fun _ _ _ h => h) (Or.inl ⟨by rfl, ?_⟩) ?_ ?_
      rotate_left
      · intro w'
        go_simp
        with_reducible rfl
      rotate_left
      · simp only [Act.put, List.setIfInBounds_toArray, List.set_cons_zero, List.set_cons_succ, i64_w, i32_w]
        rfl
      refine pure_ (i := 8) (N := some 23) (v := ?_) (a' := ?_) #[true, true, true, true, false, true, false, false, true, false, false, false, false, false, false, false] rfl rfl (by kernel_rfl) (fun _ _ _ h => h) (Or.inl ⟨by rfl, ?_⟩) ?_ ?_
      rotate_left
      · intro w'
        go_simp
        with_reducible rfl
      rotate_left
      · simp only [Act.put, List.setIfInBounds_toArray, List.set_cons_zero, List.set_cons_succ, i64_w, i32_w]
        rfl
      refine pure_ (i := 11) (N := some 26) (v := ?_) (a' := ?_) #[true, true, true, true, false, true, false, false, true, false, false, true, false, false, false, false] rfl rfl (by kernel_rfl) (fun _ _ _ h => h) (Or.inl ⟨by rfl, ?_⟩) ?_ ?_
      rotate_left
      · intro w'
        go_simp
        with_reducible rfl
      rotate_left
      · simp only [Act.put, List.setIfInBounds_toArray, List.set_cons_zero, List.set_cons_succ, i64_w, i32_w]
        rfl
      refine take_ (i := 6) (N := some 21) (v := ?_) (a' := ?_) #[true, true, true, true, false, true, true, false, true, false, false, true, false, false, false, false] rfl rfl (by kernel_rfl) (fun _ _ _ h => h) (Or.inl ⟨by rfl, ?_⟩) hFc ?_ ?_
      rotate_left
      · intro w' hw'
        go_simp
        with_reducible rfl
      rotate_left
      · simp only [Act.put, List.setIfInBounds_toArray, List.set_cons_zero, List.set_cons_succ, i64_w, i32_w]
        rfl
      refine take_ (i := 9) (N := some 24) (v := ?_) (a' := ?_) #[true, true, true, true, false, true, true, false, true, true, false, true, false, false, false, false] rfl rfl (by kernel_rfl) (fun _ _ _ h => h) (Or.inl ⟨by rfl, ?_⟩) hFc ?_ ?_
      rotate_left
      · intro w' hw'
        go_simp
        with_reducible rfl
      rotate_left
      · simp only [Act.put, List.setIfInBounds_toArray, List.set_cons_zero, List.set_cons_succ, i64_w, i32_w]
        rfl
      refine take_ (i := 12) (N := some 27) (v := ?_) (a' := ?_) #[true, true, true, true, false, true, true, false, true, true, false, true, true, false, false, false] rfl rfl (by kernel_rfl) (fun _ _ _ h => h) (Or.inl ⟨by rfl, ?_⟩) hFc ?_ ?_
      rotate_left
      · intro w' hw'
        go_simp
        with_reducible rfl
      rotate_left
      · simp only [Act.put, List.setIfInBounds_toArray, List.set_cons_zero, List.set_cons_succ, i64_w, i32_w]
        rfl
      refine one_ (i := 4) (N := some 19) #[true, true, true, true, true, true, true, false, true, true, false, true, true, false, false, false] rfl rfl (by kernel_rfl) (by decide) (fun K hK => ?_)
      refine call_ g (#[.int .i64 (k : Int)] ++ lb) (by rfl) rfl ?hrun ?_
      case hrun => first | (go_simp; done) | (go_simp; exact eg _ _) | (simp [execOp, resolve, Deferred.ofValue, invoke, Act.eval, eg])
      refine HC.out.mono ?_
      rintro e w7 ⟨rfl, hb7⟩
      refine ⟨_, rfl, ?_⟩
      have HX := Aside0.mk (show Kd.R (Kd.int .i64) 3 w7 (F + 1) (fun _ => True) (.slice (some ⟨go, 0, none⟩) n c5) (wheelTo n q p k) ∧ Below w.heap.size w w7 ∧ w7.cell? ⟨F, 1, none⟩ = some (.int .i64 (q : Int)) from ⟨Kd.R_below (Kd.R_drew HK.out.1) hb7, below_step HK.out.2.1.drew hb7, (hb7.cell (p := ⟨F, 1, none⟩) (World.block_lt_of_cell? _ _ hFc)).trans hFc⟩)
      refine hK.out _ _ HX.out.2.2 (fun _ => ?_)
      clear hK K
      refine norm_ (a' := ?_) ?_ ?_
      rotate_left
      · show Act.put _ (some 19) _ = _
        simp only [Act.put, List.setIfInBounds_toArray, List.set_cons_zero, List.set_cons_succ, i64_w, i32_w]
        rfl
      refine pure_ (i := 7) (N := some 22) (v := ?_) (a' := ?_) #[true, true, true, true, true, true, true, true, true, true, false, true, true, false, false, false] rfl rfl (by kernel_rfl) (fun _ _ _ h => h) (Or.inl ⟨by rfl, ?_⟩) ?_ ?_
      rotate_left
      · intro w'
        go_simp
        with_reducible rfl
      rotate_left
      · simp only [Act.put, List.setIfInBounds_toArray, List.set_cons_zero, List.set_cons_succ, i64_w, i32_w]
        rfl
      refine pure_ (i := 10) (N := some 25) (v := ?_) (a' := ?_) #[true, true, true, true, true, true, true, true, true, true, true, true, true, false, false, false] rfl rfl (by kernel_rfl) (fun _ _ _ h => h) (Or.inl ⟨by rfl, ?_⟩) ?_ ?_
      rotate_left
      · intro w'
        go_simp
        with_reducible rfl
      rotate_left
      · simp only [Act.put, List.setIfInBounds_toArray, List.set_cons_zero, List.set_cons_succ, i64_w, i32_w]
        rfl
      refine pure_ (i := 13) (N := some 28) (v := ?_) (a' := ?_) #[true, true, true, true, true, true, true, true, true, true, true, true, true, true, false, false] rfl rfl (by kernel_rfl) (fun _ _ _ h => h) (Or.inl ⟨by rfl, ?_⟩) ?_ ?_
      rotate_left
      · intro w'
        go_simp
        with_reducible rfl
      rotate_left
      · simp only [Act.put, List.setIfInBounds_toArray, List.set_cons_zero, List.set_cons_succ, i64_w, i32_w]
        rfl
      refine pure_ (i := 14) (N := some 29) (v := ?_) (a' := ?_) #[true, true, true, true, true, true, true, true, true, true, true, true, true, true, true, false] rfl rfl (by kernel_rfl) (fun _ _ _ h => h) (Or.inl ⟨by rfl, ?_⟩) ?_ ?_
      rotate_left
      · intro w'
        go_simp
        with_reducible rfl
      rotate_left
      · simp only [Act.put, List.setIfInBounds_toArray, List.set_cons_zero, List.set_cons_succ, i64_w, i32_w]
        rfl
      have hv := wheel_val (pk := pk) HQ.out.1 HQ.out.2
      rw [hv]
      refine last_ (i := 15) (N := none) #[true, true, true, true, true, true, true, true, true, true, true, true, true, true, true, true] rfl rfl (by kernel_rfl) (by decide) (fun K hK => ?_)
      obtain ⟨hx, hfz⟩ := Kd.R_celln 0 HX.out.1 (k : Int) hk0 hkz
      rw [Int.toNat_natCast] at hx hfz
      refine skip_ (w1 := w7.setCell ⟨go, k, none⟩ (.int .i64 ((pk % q : Nat) : Int))) (by rfl) rfl ?hr15 ?_
      case hr15 => first | (go_simp; done) | (go_simp; rfl)
      refine hK.out _ _ ?_
      clear hK K
      refine done_ (by kernel_rfl) ?_
      have HP2 := Aside0.mk (Kd.R_putg HX.out.1 (k : Int) ((pk % q : Nat) : Int))
      clear hx hfz hv
      go_wp2_with fail
      go_roundg (n - (k + 1))
      case measure => omega
      case rel =>
        have hset := wheelTo_set (q := q) (p := p) hk
        rw [← HPK.out.1] at hset
        have h2 := HP2.out.1
        rw [Int.toNat_natCast, hset] at h2
        exact ⟨k + 1, by go_num, by omega, ⟨h2, below_set HX.out.2.1 (by have := HGB.out; have := HFF.out; omega), (World.cell?_setCell_far _ _ _ _ (by simp only [ne_eq]; have := HGB.out; omega)).trans HX.out.2.2⟩⟩
    · have hkz : ¬ (k : Int) < (n : Int) := by omega
      have hkn : k = n := by omega
      go_wp2_with fail
      go_ret
      have h := HK.out.1
      rw [hkn, wheelTo_all] at h
      exact ⟨_, rfl, Kd.R_lower h (by have := HFF.out; omega), HK.out.2.1⟩

end Go.Proofs.YtfpnojcbhbkfaaaDoor.P
namespace Go.Proofs.YtfpnojcbhbkfaaaDoor.P
open Go.RowKit Go.Proofs.YtfpnojcbhbkfaaaDoorW.PrintWords Go.Proofs.YtfpnojcbhbkfaaaDoorW.PrintLast Go.Proofs.YtfpnojcbhbkfaaaDoorW.PrintMore
attribute [local go_sem] max2_int min2_int max_two min_two max_three min_three max_four min_four   -- for this text's walks alone
set_option linter.unusedVariables false
set_option linter.unusedSimpArgs false

/-! ### wheels_field_power: function 123 -/
def wheels_field_power.l0 : Nat → Int → Int → Int → Int → Int → Int → Int → Option (Int)
  | 0, _, _, _, _, _, _, _ => none
  | k + 1, x1, x7, x8, x9, x1002000, x1002001, x1002002 => if x9 < x8 then (if x1002001 = 0 then (none) else (wheels_field_power.l0 k x1 (Int.tmod (wrap64 (x7 * x1)) x1002001) x8 (wrap64 (x9 + 1)) x1002000 x1002001 x1002002)) else (some x7)
def wheels_field_power.f (k : Nat) (a0_0 : Int) (a0_1 : Int) (a0_2 : Int) (a1 : Int) (a2 : Int) : Option (Int) := wheels_field_power.l0 k a1 1 a2 0 a0_0 a0_1 a0_2
theorem wheels_field_power.mono_l : ∀ k, (∀ y0 y1 y2 y3 y4 y5 y6, LeO (wheels_field_power.l0 k y0 y1 y2 y3 y4 y5 y6) (wheels_field_power.l0 (k + 1) y0 y1 y2 y3 y4 y5 y6))
  | 0 => fun _ _ _ _ _ _ _ r h => by simp [wheels_field_power.l0] at h
  | k + 1 => by
    have ih0 := wheels_field_power.mono_l k
    · intro y0 y1 y2 y3 y4 y5 y6
      unfold wheels_field_power.l0
      repeat' first
      | (with_reducible exact ih0 _ _ _ _ _ _ _)
      | (with_reducible exact LeO.refl _)
      | (with_reducible exact LeO.none _)
      | (with_reducible refine LeO.ite ?_ ?_)
      | (with_reducible refine LeO.bind ?_ (fun _ => ?_))
      | exact ih0 _ _ _ _ _ _ _
      | exact LeO.none _
      | refine LeO.ite ?_ ?_
      | refine LeO.bind ?_ (fun _ => ?_)
theorem wheels_field_power.mono : ∀ a0 a1 a2 a3 a4 k, LeO (wheels_field_power.f k a0 a1 a2 a3 a4) (wheels_field_power.f (k + 1) a0 a1 a2 a3 a4) := by
  intro a0 a1 a2 a3 a4 k
  have ih0 := wheels_field_power.mono_l k
  unfold wheels_field_power.f
  repeat' first
      | (with_reducible exact ih0 _ _ _ _ _ _ _)
      | (with_reducible exact LeO.refl _)
      | (with_reducible exact LeO.none _)
      | (with_reducible refine LeO.ite ?_ ?_)
      | (with_reducible refine LeO.bind ?_ (fun _ => ?_))
      | exact ih0 _ _ _ _ _ _ _
      | exact LeO.none _
      | refine LeO.ite ?_ ?_
      | refine LeO.bind ?_ (fun _ => ?_)
set_option maxHeartbeats 8000000 in
set_option maxRecDepth 100000 in
theorem wheels_field_power.calls (k : Nat) (a0_0 : Int) (a0_1 : Int) (a0_2 : Int) (a1 : Int) (a2 : Int) (r : Int) (w : World) (h : wheels_field_power.f k a0_0 a0_1 a0_2 a1 a2 = some r) :
    Calls Tryd.prog 123 #[.agg #[.int .i64 a0_0, .int .i64 a0_1, .int .i64 a0_2], .int .i64 a1, .int .i64 a2] w fun e w' => e = .returned (.int .i64 r) ∧ Below w.heap.size w w' := by
  have hu80 := Tryd.underlying80
  have HB := Aside0.mk (Below.refl w.heap.size w)
  have H : (wheels_field_power.l0 k a1 1 a2 0 a0_0 a0_1 a0_2) = some r := h
  clear h
  have H' := Aside0.mk H
  clear H
  go_enter Tryd.func123, Tryd.ntmps123
  go_wp2_with (first | ((with_reducible refine gate_dst (N := 3) rfl ?_); refine box_event ?hg (N := 3) ?hd (cs := #[.int .i64 a0_0, .int .i64 a0_1, .int .i64 a0_2]) (t := 80) ?hr ?_; (case hd => rfl); (case hg => rfl); (case hr => first | (go_simp; done) | (go_simp; rfl)); intro gb1001 hg w4 hbox hb; have n0_ := Aside0.mk (below_step (by repeat (first | (with_reducible first | exact HB.out | apply below_alloc | apply pw_below_drewN | apply below_drew1) | exact HB.out)) hb); have n1_ := Aside0.mk (hbox); have n2_ := Aside0.mk ((by rw [hg]; exact (below_size (by repeat (first | (with_reducible first | exact HB.out | apply below_alloc | apply pw_below_drewN | apply below_drew1) | exact HB.out))) : w.heap.size ≤ gb1001)); have n3_ := Aside0.mk ((by rw [hg]; exact (below_size (by repeat (first | (with_reducible first | exact HB.out | apply below_alloc | apply pw_below_drewN | apply below_drew1) | exact HB.out))) : w.heap.size ≤ gb1001)); clear HB; have HB := n0_; have BK1001 := n1_; have GW1001 := n2_; have GE1001 := n3_; clear n0_ n1_ n2_ n3_; clear hb hbox hg))
  go_loopg [7, 9] k (fun kq v7 v9 w' => ∃ (x7_1 : Int) (x9_1 : Int), v7 = .int .i64 x7_1 ∧ v9 = .int .i64 x9_1 ∧ Aside0 (wheels_field_power.l0 kq a1 x7_1 a2 x9_1 a0_0 a0_1 a0_2 = some r) ∧ Aside0 (kq ≤ k) ∧ Aside0 (w'.heap[gb1001]? = some (.cells #[.int .i64 a0_0, .int .i64 a0_1, .int .i64 a0_2] 80 (0, 0))) ∧ Aside0 (Below w.heap.size w w'))
  case atStart => exact ⟨(1), (0), (by first | rfl | (simp; done) | (simp [*]; done)), (by first | rfl | (simp; done) | (simp [*]; done)), H', ⟨Nat.le_refl _⟩, ⟨by (with_reducible repeat (first | refine blk_drewN ?_ _ | refine blk_drew ?_ | refine blk_alloc ?_ _)); exact BK1001.out⟩, ⟨by repeat (first | (with_reducible first | exact HB.out | apply below_alloc | apply pw_below_drewN | apply below_drew1 | refine below_set ?_ GE1001.out) | exact HB.out)⟩⟩
  case round =>
    clear H'
    try clear c1
    try clear p2
    obtain ⟨x7_1, x9_1, rfl, rfl, HA, HK1, BK1001, HB⟩ := hrel
    cases gk with
    | zero => exact absurd HA.out (by simp [wheels_field_power.l0])
    | succ k1 =>
      have H := HA.out
      clear HA
      simp only [wheels_field_power.l0] at H
      by_cases c5 : x9_1 < a2
      · rw [if_pos c5] at H
        have c5b0 : decide (x9_1 < a2) = true := decide_eq_true c5
        clear c5
        by_cases c6 : a0_1 = 0
        · rw [if_pos c6] at H
          exact absurd H (by simp)
        · rw [if_neg c6] at H
          have c6b0 : (a0_1 == 0) = false := beq_eq_false_iff_ne.mpr c6
          have c6b1 : (a0_1 != 0) = true := bne_iff_ne.mpr c6
          have H' := Aside0.mk H
          clear H
          have hcz7_0 : wr.cell? ⟨gb1001, 0, none⟩ = some (.int .i64 a0_0) := (blk_cell BK1001.out 0).trans rfl
          have hcz7_1 : wr.cell? ⟨gb1001, 1, none⟩ = some (.int .i64 a0_1) := (blk_cell BK1001.out 1).trans rfl
          have hcz7_2 : wr.cell? ⟨gb1001, 2, none⟩ = some (.int .i64 a0_2) := (blk_cell BK1001.out 2).trans rfl
          have hfz7_0 := blk_frozen BK1001.out 0
          have hfz7_1 := blk_frozen BK1001.out 1
          have hfz7_2 := blk_frozen BK1001.out 2
          go_wp2
          go_roundg k1
          case measure => have := HK1.out; omega
          case rel => exact ⟨(Int.tmod (wrap64 (x7_1 * a1)) a0_1), (wrap64 (x9_1 + 1)), (by first | rfl | (simp; done) | (simp [*]; done)), (by first | rfl | (simp; done) | (simp [*]; done)), H', ⟨by have := HK1.out; omega⟩, ⟨by (with_reducible repeat (first | refine blk_drewN ?_ _ | refine blk_drew ?_ | refine blk_alloc ?_ _)); exact BK1001.out⟩, ⟨by repeat (first | (with_reducible first | exact HB.out | apply below_alloc | apply pw_below_drewN | apply below_drew1 | refine below_set ?_ GE1001.out) | exact HB.out)⟩⟩
      · rw [if_neg c5] at H
        have c5b0 : decide (x9_1 < a2) = false := decide_eq_false c5
        clear c5
        obtain rfl := Option.some.inj H
        go_wp2
        go_ret
        exact ⟨by first | rfl | (simp [errW_none, errW_some] <;> rfl) | (simp [*, errW_none, errW_some] <;> rfl), by repeat (first | (with_reducible first | exact HB.out | apply below_alloc | apply pw_below_drewN | apply below_drew1 | refine below_set ?_ GE1001.out) | exact HB.out)⟩

end Go.Proofs.YtfpnojcbhbkfaaaDoor.P
namespace Go.Proofs.YtfpnojcbhbkfaaaDoor.P
open Go.RowKit Go.Proofs.YtfpnojcbhbkfaaaDoorW.PrintWords Go.Proofs.YtfpnojcbhbkfaaaDoorW.PrintLast Go.Proofs.YtfpnojcbhbkfaaaDoorW.PrintMore
attribute [local go_sem] max2_int min2_int max_two min_two max_three min_three max_four min_four   -- for this text's walks alone
set_option linter.unusedVariables false
set_option linter.unusedSimpArgs false

/-! powers in a wheel's field -/
def pwN (q u : Nat) : Nat → Nat
  | 0 => 1
  | k + 1 => pwN q u k * u % q
theorem pwN_lt {q u : Nat} (hq : 2 ≤ q) : ∀ k, pwN q u k < q
  | 0 => hq
  | k + 1 => Nat.mod_lt _ (by omega)
theorem power_loop {q u m : Nat} (hq : 2 ≤ q) (hq2 : q ≤ 1000) (hu : u < q) (hm : m ≤ 1000) (x y : Int) : ∀ (d i : Nat), i + d = m →
    Ev (fun k => wheels_field_power.l0 k (u : Int) (pwN q u i : Int) (m : Int) (i : Int) x (q : Int) y) (pwN q u m : Int) := by
  intro d
  induction d with
  | zero =>
    intro i hi
    have : i = m := by omega
    subst this
    refine Ev.succ ?_
    simp only [wheels_field_power.l0, if_neg (show ¬ (i : Int) < (i : Int) by omega)]
    exact Ev.some _
  | succ d ih =>
    intro i hi
    have hl := pwN_lt (u := u) hq i
    have hmul : pwN q u i * u ≤ 1000 * 1000 := Nat.mul_le_mul (by omega) (by omega)
    have hw : wrap64 ((i : Int) + 1) = ((i + 1 : Nat) : Int) := by rw [wrap_id (by omega) (by omega)]; omega
    have hv : Int.tmod (wrap64 ((pwN q u i : Int) * (u : Int))) (q : Int) = (pwN q u (i + 1) : Int) := by
      rw [← Int.natCast_mul, wrap_id (by omega) (by omega), Int.tmod_eq_emod_of_nonneg (by omega), ← Int.natCast_emod]
      rfl
    refine Ev.succ ?_
    simp only [wheels_field_power.l0, if_pos (show (i : Int) < (m : Int) by omega), if_neg (show ¬ (q : Int) = 0 by omega), hw, hv]
    exact ih (i + 1) (by omega)
theorem power_ev {q u m : Nat} (hq : 2 ≤ q) (hq2 : q ≤ 1000) (hu : u < q) (hm : m ≤ 1000) (x y : Int) : Ev (fun k => wheels_field_power.f k x (q : Int) y (u : Int) (m : Int)) (pwN q u m : Int) := by
  unfold wheels_field_power.f
  exact power_loop hq hq2 hu hm x y m 0 (by omega)

end Go.Proofs.YtfpnojcbhbkfaaaDoor.P
namespace Go.Proofs.YtfpnojcbhbkfaaaDoor.P
open Go.RowKit Go.Proofs.YtfpnojcbhbkfaaaDoorW.PrintWords Go.Proofs.YtfpnojcbhbkfaaaDoorW.PrintLast Go.Proofs.YtfpnojcbhbkfaaaDoorW.PrintMore
attribute [local go_sem] max2_int min2_int max_two min_two max_three min_three max_four min_four   -- for this text's walks alone
set_option linter.unusedVariables false
set_option linter.unusedSimpArgs false

/-! wheels.field.turned, and its function -/
def natsI (l : List Nat) : List Int := l.map Int.ofNat
theorem natsI_len (l : List Nat) : (natsI l).length = l.length := by unfold natsI; simp
def accW (q n u k : Nat) : List Nat → Nat → Nat → Nat
  | [], _, acc => acc
  | c :: l, x, acc => accW q n u k l (x + 1) (acc + c * pwN q u (k * x % n) % q)
def turnedV (q n u : Nat) (l : List Nat) (k : Nat) : Nat := accW q n u k l 0 0
theorem accW_le {q n u k : Nat} (hq : 1 ≤ q) : ∀ (l : List Nat) (x acc : Nat), accW q n u k l x acc ≤ acc + l.length * q
  | [], _, acc => by simp [accW]
  | c :: l, x, acc => by
    have h := accW_le (n := n) (u := u) (k := k) hq l (x + 1) (acc + c * pwN q u (k * x % n) % q)
    have := Nat.mod_lt (c * pwN q u (k * x % n)) hq
    unfold accW
    rw [List.length_cons, Nat.succ_mul]
    omega
/-- what a turned wheel's function finds in memory -/
structure TrnAt (n q f u : Nat) (l : List Nat) (BL BF BW : Nat) (A : Option Addr) (c : Nat) (w : World) : Prop where
  l0 : w.cell? ⟨BL, 0, none⟩ = some (.slice A l.length c)
  f0 : w.cell? ⟨BF, 0, none⟩ = some (.int .i64 (n : Int))
  f1 : w.cell? ⟨BF, 1, none⟩ = some (.int .i64 (q : Int))
  f2 : w.cell? ⟨BF, 2, none⟩ = some (.int .i64 (f : Int))
  u0 : w.cell? ⟨BW, 0, none⟩ = some (.int .i64 (u : Int))
  r : Kd.C (Kd.int .i64) w A (natsI l).length (natsI l)
theorem cell_to {w W : World} {a : Addr} {v : Value} (h : w.cell? a = some v) (hb : Below w.heap.size w W) : W.cell? a = some v := (hb.cell (p := a) (World.block_lt_of_cell? _ _ h)).trans h
theorem TrnAt.to {n q f u : Nat} {l : List Nat} {BL BF BW : Nat} {A : Option Addr} {c : Nat} {w W : World} (h : TrnAt n q f u l BL BF BW A c w) (hb : Below w.heap.size w W) : TrnAt n q f u l BL BF BW A c W :=
  ⟨cell_to h.l0 hb, cell_to h.f0 hb, cell_to h.f1 hb, cell_to h.f2 hb, cell_to h.u0 hb, Kd.C_below h.r hb⟩
set_option maxHeartbeats 8000000 in
set_option maxRecDepth 100000 in
theorem turned1_calls (n q f u : Nat) (l : List Nat) (BL BF BW : Nat) (A : Option Addr) (c : Nat) (k : Nat) (hn1 : 1 ≤ n) (hn : n ≤ 16) (hq : 2 ≤ q) (hq2 : q ≤ 1000) (hu : u < q) (hl : l.length ≤ 16) (hlq : ∀ x ∈ l, x < q) (hk : k < n) (w : World) (h : TrnAt n q f u l BL BF BW A c w) :
    Calls Tryd.prog 122 #[.int .i64 (k : Int), .pointer (some ⟨BL, 0, none⟩), .pointer (some ⟨BF, 0, none⟩), .pointer (some ⟨BW, 0, none⟩)] w fun e w' => e = .returned (.int .i64 (turnedV q n u l k : Int)) ∧ Below w.heap.size w w' := by
  have HT := Aside0.mk h
  have HN := Aside0.mk (show 1 ≤ n ∧ n ≤ 16 ∧ 2 ≤ q ∧ q ≤ 1000 ∧ k < n ∧ l.length ≤ 16 from ⟨hn1, hn, hq, hq2, hk, hl⟩)
  have HLQ := Aside0.mk hlq
  obtain ⟨T, hT⟩ : ∃ T, T = turnedV q n u l k := ⟨_, rfl⟩
  have HPW := Aside0.mk (fun (m : Nat) (hm : m ≤ 1000) (V : World) => by
    obtain ⟨kp, hkp⟩ := Ev.rounds (power_ev hq hq2 hu hm (n : Int) (f : Int))
    exact wheels_field_power.calls kp (n : Int) (q : Int) (f : Int) (u : Int) (m : Int) _ V hkp)
  have c0 := h.l0
  rw [← hT]
  have HTT := Aside0.mk hT
  clear h hlq hT hu
  go_enter Tryd.func122, Tryd.ntmps122
  go_wp2_with fail
  clear c0
  go_loopg [6, 11] l.length (fun gg s6 s11 wr => ∃ (x acc : Nat), s11 = .int .i64 (x : Int) ∧ s6 = .int .i64 (acc : Int) ∧ x + gg = l.length ∧ Aside0 (accW q n u k (l.drop x) x acc = T ∧ acc ≤ x * 1000) ∧ Aside0 (Below w.heap.size w wr))
  case atStart => exact ⟨0, 0, rfl, rfl, by omega, ⟨by rw [List.drop_zero, HTT.out]; rfl, by omega⟩, ⟨Below.refl _ _⟩⟩
  case round =>
    obtain ⟨x, acc, rfl, rfl, hxg, HA, HB⟩ := hrel
    by_cases hx : x < l.length
    · have hxz : (x : Int) < (l.length : Int) := by omega
      have hx0 : (0 : Int) ≤ (x : Int) := by omega
      have HTR := Aside0.mk (HT.out.to HB.out)
      obtain ⟨cx, hcx⟩ : ∃ y, y = l[x] := ⟨_, rfl⟩
      obtain ⟨ad, ead, hcell⟩ := Kd.at_int HTR.out.r (x : Int) hx0 (by rw [natsI_len]; exact hxz)
      have hrd : rd (natsI l) (x : Int) = (cx : Int) := by
        rw [rd_get (by rw [natsI_len]; exact hx), hcx]
        simp [natsI]
      rw [hrd, Int.toNat_natCast] at hcell
      cases ead
      have HCX := Aside0.mk (show cx < q ∧ l.drop x = cx :: l.drop (x + 1) from ⟨by rw [hcx]; exact HLQ.out _ (List.getElem_mem hx), by rw [hcx]; exact List.drop_eq_getElem_cons hx⟩)
      have f0 := HTR.out.f0
      have f1 := HTR.out.f1
      have f2 := HTR.out.f2
      have u0 := HTR.out.u0
      clear hcx hrd
      go_wp2_with fail
      have hS0 : (wr.drew).cell? ⟨BF, 0, none⟩ = some (.int .i64 (n : Int)) ∧ (wr.drew).cell? ⟨BF, 1, none⟩ = some (.int .i64 (q : Int)) ∧ (wr.drew).cell? ⟨BF, 2, none⟩ = some (.int .i64 (f : Int)) ∧ (wr.drew).cell? ⟨BW, 0, none⟩ = some (.int .i64 (u : Int)) := ⟨f0, f1, f2, u0⟩
      have hn0z : ¬ (n : Int) = 0 := by have := HN.out.1; omega
      have hn0n : ¬ n = 0 := by have := HN.out.1; omega
      have hq0z : ¬ (q : Int) = 0 := by have := HN.out.2.2.1; omega
      have hq0n : ¬ q = 0 := by have := HN.out.2.2.1; omega
      refine start_ (n := 17) (S := (fun w' => w'.cell? ⟨BF, 0, none⟩ = some (.int .i64 (n : Int)) ∧ w'.cell? ⟨BF, 1, none⟩ = some (.int .i64 (q : Int)) ∧ w'.cell? ⟨BF, 2, none⟩ = some (.int .i64 (f : Int)) ∧ w'.cell? ⟨BW, 0, none⟩ = some (.int .i64 (u : Int)))) (ds := []) #[false, false, false, false, false, false, false, false, false, false, false, false, false, false, false, false, false] (by kernel_rfl) rfl rfl hS0 (fun _ => ?_)
      refine pure_ (i := 0) (N := some 16) (v := ?_) (a' := ?_) #[true, false, false, false, false, false, false, false, false, false, false, false, false, false, false, false, false] rfl rfl (by kernel_rfl) (fun _ _ _ h => h) (Or.inl ⟨by rfl, ?_⟩) ?_ ?_
      rotate_left
      · intro w'
        go_simp
        with_reducible rfl
      rotate_left
      · simp only [Act.put, List.setIfInBounds_toArray, List.set_cons_zero, List.set_cons_succ, i64_w, i32_w]
        rfl
      refine pure_ (i := 1) (N := some 17) (v := ?_) (a' := ?_) #[true, true, false, false, false, false, false, false, false, false, false, false, false, false, false, false, false] rfl rfl (by kernel_rfl) (fun _ _ _ h => h) (Or.inl ⟨by rfl, ?_⟩) ?_ ?_
      rotate_left
      · intro w'
        go_simp
        with_reducible rfl
      rotate_left
      · simp only [Act.put, List.setIfInBounds_toArray, List.set_cons_zero, List.set_cons_succ, i64_w, i32_w]
        rfl
      refine pure_ (i := 4) (N := some 20) (v := ?_) (a' := ?_) #[true, true, false, false, true, false, false, false, false, false, false, false, false, false, false, false, false] rfl rfl (by kernel_rfl) (fun _ _ _ h => h) (Or.inl ⟨by rfl, ?_⟩) ?_ ?_
      rotate_left
      · intro w'
        go_simp
        with_reducible rfl
      rotate_left
      · simp only [Act.put, List.setIfInBounds_toArray, List.set_cons_zero, List.set_cons_succ, i64_w, i32_w]
        rfl
      refine pure_ (i := 5) (N := some 21) (v := ?_) (a' := ?_) #[true, true, false, false, true, true, false, false, false, false, false, false, false, false, false, false, false] rfl rfl (by kernel_rfl) (fun _ _ _ h => h) (Or.inl ⟨by rfl, ?_⟩) ?_ ?_
      rotate_left
      · intro w'
        go_simp
        with_reducible rfl
      rotate_left
      · simp only [Act.put, List.setIfInBounds_toArray, List.set_cons_zero, List.set_cons_succ, i64_w, i32_w]
        rfl
      refine pure_ (i := 6) (N := some 22) (v := ?_) (a' := ?_) #[true, true, false, false, true, true, true, false, false, false, false, false, false, false, false, false, false] rfl rfl (by kernel_rfl) (fun _ _ _ h => h) (Or.inl ⟨by rfl, ?_⟩) ?_ ?_
      rotate_left
      · intro w'
        go_simp
        with_reducible rfl
      rotate_left
      · simp only [Act.put, List.setIfInBounds_toArray, List.set_cons_zero, List.set_cons_succ, i64_w, i32_w]
        rfl
      refine pure_ (i := 7) (N := some 23) (v := ?_) (a' := ?_) #[true, true, false, false, true, true, true, true, false, false, false, false, false, false, false, false, false] rfl rfl (by kernel_rfl) (fun _ _ _ h => h) (Or.inl ⟨by rfl, ?_⟩) ?_ ?_
      rotate_left
      · intro w'
        go_simp
        with_reducible rfl
      rotate_left
      · simp only [Act.put, List.setIfInBounds_toArray, List.set_cons_zero, List.set_cons_succ, i64_w, i32_w]
        rfl
      refine pure_ (i := 12) (N := some 28) (v := ?_) (a' := ?_) #[true, true, false, false, true, true, true, true, false, false, false, false, true, false, false, false, false] rfl rfl (by kernel_rfl) (fun _ _ _ h => h) (Or.inl ⟨by rfl, ?_⟩) ?_ ?_
      rotate_left
      · intro w'
        go_simp
        with_reducible rfl
      rotate_left
      · simp only [Act.put, List.setIfInBounds_toArray, List.set_cons_zero, List.set_cons_succ, i64_w, i32_w]
        rfl
      refine take_ (i := 2) (N := some 18) (v := ?_) (a' := ?_) #[true, true, true, false, true, true, true, true, false, false, false, false, true, false, false, false, false] rfl rfl (by kernel_rfl) (fun _ _ _ h => h) (Or.inl ⟨by rfl, ?_⟩) hS0 ?_ ?_
      rotate_left
      · rintro w' ⟨k0', k1', k2', k3'⟩
        go_simp
        with_reducible rfl
      rotate_left
      · simp only [Act.put, List.setIfInBounds_toArray, List.set_cons_zero, List.set_cons_succ, i64_w, i32_w]
        rfl
      refine take_ (i := 3) (N := some 19) (v := ?_) (a' := ?_) #[true, true, true, true, true, true, true, true, false, false, false, false, true, false, false, false, false] rfl rfl (by kernel_rfl) (fun _ _ _ h => h) (Or.inl ⟨by rfl, ?_⟩) hS0 ?_ ?_
      rotate_left
      · rintro w' ⟨k0', k1', k2', k3'⟩
        go_simp
        with_reducible rfl
      rotate_left
      · simp only [Act.put, List.setIfInBounds_toArray, List.set_cons_zero, List.set_cons_succ, i64_w, i32_w]
        rfl
      refine take_ (i := 8) (N := some 24) (v := ?_) (a' := ?_) #[true, true, true, true, true, true, true, true, true, false, false, false, true, false, false, false, false] rfl rfl (by kernel_rfl) (fun _ _ _ h => h) (Or.inl ⟨by rfl, ?_⟩) hS0 ?_ ?_
      rotate_left
      · rintro w' ⟨k0', k1', k2', k3'⟩
        go_simp
        with_reducible rfl
      rotate_left
      · simp only [Act.put, List.setIfInBounds_toArray, List.set_cons_zero, List.set_cons_succ, i64_w, i32_w]
        rfl
      refine take_ (i := 13) (N := some 29) (v := ?_) (a' := ?_) #[true, true, true, true, true, true, true, true, true, false, false, false, true, true, false, false, false] rfl rfl (by kernel_rfl) (fun _ _ _ h => h) (Or.inl ⟨by rfl, ?_⟩) hS0 ?_ ?_
      rotate_left
      · rintro w' ⟨k0', k1', k2', k3'⟩
        go_simp
        with_reducible rfl
      rotate_left
      · simp only [Act.put, List.setIfInBounds_toArray, List.set_cons_zero, List.set_cons_succ, i64_w, i32_w]
        rfl
      refine pure_ (i := 9) (N := some 25) (v := ?_) (a' := ?_) #[true, true, true, true, true, true, true, true, true, true, false, false, true, true, false, false, false] rfl rfl (by kernel_rfl) (fun _ _ _ h => h) (Or.inl ⟨by rfl, ?_⟩) ?_ ?_
      rotate_left
      · intro w'
        go_simp
        with_reducible rfl
      rotate_left
      · simp only [Act.put, List.setIfInBounds_toArray, List.set_cons_zero, List.set_cons_succ, i64_w, i32_w]
        rfl
      obtain ⟨e0, he0⟩ : ∃ e0, e0 = k * x % n := ⟨_, rfl⟩
      have hm : Int.tmod (wrap64 ((k : Int) * (x : Int))) (n : Int) = (e0 : Int) := by
        have : k * x ≤ 16 * 16 := Nat.mul_le_mul (by have := HN.out; omega) (by have := HN.out; omega)
        rw [← Int.natCast_mul, wrap_id (by omega) (by omega), Int.tmod_eq_emod_of_nonneg (by omega), ← Int.natCast_emod, he0]
      have hel : e0 ≤ 1000 := by rw [he0]; have := Nat.mod_lt (k * x) (show 0 < n by have := HN.out; omega); have := HN.out; omega
      rw [hm]
      obtain ⟨pw, hpw⟩ : ∃ y, y = pwN q u e0 := ⟨_, rfl⟩
      have HE := Aside0.mk he0
      have HPN := Aside0.mk hpw
      have hpl : pw < q := by rw [hpw]; exact pwN_lt (by have := HN.out; omega) e0
      have hcall := HPW.out e0 hel wr.drew
      rw [← hpw] at hcall
      have HC := Aside0.mk hcall
      clear he0 hm hpw hcall
      refine one_ (i := 10) (N := some 26) #[true, true, true, true, true, true, true, true, true, true, true, false, true, true, false, false, false] rfl rfl (by kernel_rfl) (by decide) (fun K hK => ?_)
      refine goes_ Tryd.func123 (by kernel_rfl) rfl #[.agg #[.int .i64 (n : Int), .int .i64 (q : Int), .int .i64 (f : Int)], .int .i64 (u : Int), .int .i64 (e0 : Int)] (by rfl) rfl rfl (by simp only [List.map_toArray, List.map_cons, List.map_nil]; rfl) ?_
      refine HC.out.mono ?_
      rintro e w7 ⟨rfl, hb7⟩
      refine ⟨_, rfl, ?_⟩
      have HX := Aside0.mk (show Below wr.heap.size wr w7 ∧ Below w.heap.size w w7 from ⟨below_step (below_drew (Below.refl _ _)) hb7, below_step HB.out.drew hb7⟩)
      clear hb7
      refine hK.out _ _ ⟨cell_to f0 HX.out.1, cell_to f1 HX.out.1, cell_to f2 HX.out.1, cell_to u0 HX.out.1⟩ (fun _ => ?_)
      clear hK K
      refine norm_ (a' := ?_) ?_ ?_
      rotate_left
      · show Act.put _ (some 26) _ = _
        simp only [Act.put, List.setIfInBounds_toArray, List.set_cons_zero, List.set_cons_succ, i64_w, i32_w]
        rfl
      refine pure_ (i := 11) (N := some 27) (v := ?_) (a' := ?_) #[true, true, true, true, true, true, true, true, true, true, true, true, true, true, false, false, false] rfl rfl (by kernel_rfl) (fun _ _ _ h => h) (Or.inl ⟨by rfl, ?_⟩) ?_ ?_
      rotate_left
      · intro w'
        go_simp
        with_reducible rfl
      rotate_left
      · simp only [Act.put, List.setIfInBounds_toArray, List.set_cons_zero, List.set_cons_succ, i64_w, i32_w]
        rfl
      refine pure_ (i := 14) (N := some 30) (v := ?_) (a' := ?_) #[true, true, true, true, true, true, true, true, true, true, true, true, true, true, true, false, false] rfl rfl (by kernel_rfl) (fun _ _ _ h => h) (Or.inl ⟨by rfl, ?_⟩) ?_ ?_
      rotate_left
      · intro w'
        go_simp
        with_reducible rfl
      rotate_left
      · simp only [Act.put, List.setIfInBounds_toArray, List.set_cons_zero, List.set_cons_succ, i64_w, i32_w]
        rfl
      obtain ⟨vv, hvv⟩ : ∃ y, y = cx * pw % q := ⟨_, rfl⟩
      have hvl : vv < q := by rw [hvv]; exact Nat.mod_lt _ (by have := HN.out; omega)
      have hv : Int.tmod (wrap64 ((cx : Int) * (pw : Int))) (q : Int) = (vv : Int) := by
        have : cx * pw ≤ 1000 * 1000 := Nat.mul_le_mul (by have := HCX.out.1; have := HN.out; omega) (by have := HN.out; omega)
        rw [← Int.natCast_mul, wrap_id (by omega) (by omega), Int.tmod_eq_emod_of_nonneg (by omega), ← Int.natCast_emod, hvv]
      rw [hv]
      have HVL := Aside0.mk (show cx * pw % q < q by rw [← hvv]; exact hvl)
      have HVV := Aside0.mk hvv
      clear hv hvv hvl
      refine pure_ (i := 15) (N := some 31) (v := ?_) (a' := ?_) #[true, true, true, true, true, true, true, true, true, true, true, true, true, true, true, true, false] rfl rfl (by kernel_rfl) (fun _ _ _ h => h) (Or.inl ⟨by rfl, ?_⟩) ?_ ?_
      rotate_left
      · intro w'
        go_simp
        with_reducible rfl
      rotate_left
      · simp only [Act.put, List.setIfInBounds_toArray, List.set_cons_zero, List.set_cons_succ, i64_w, i32_w]
        rfl
      have hs : wrap64 ((acc : Int) + (vv : Int)) = ((acc + cx * pw % q : Nat) : Int) := by
        have := HA.out.2
        have := HN.out
        have := HVL.out
        have e := HVV.out
        rw [wrap_id (by omega) (by omega)]; omega
      rw [hs]
      clear hs
      refine pure_ (i := 16) (N := some 6) (v := ?_) (a' := ?_) #[true, true, true, true, true, true, true, true, true, true, true, true, true, true, true, true, true] rfl rfl (by kernel_rfl) (fun _ _ _ h => h) (Or.inl ⟨by rfl, ?_⟩) ?_ ?_
      rotate_left
      · intro w'
        go_simp
        with_reducible rfl
      rotate_left
      · simp only [Act.put, List.setIfInBounds_toArray, List.set_cons_zero, List.set_cons_succ, i64_w, i32_w]
        rfl
      refine done_ (by kernel_rfl) ?_
      go_wp2_with fail
      go_roundg (l.length - (x + 1))
      case measure => omega
      case rel =>
        refine ⟨x + 1, acc + cx * pw % q, by go_num, rfl, by omega, ⟨?_, ?_⟩, ⟨HX.out.2⟩⟩
        · have h := HA.out.1
          rw [HCX.out.2] at h
          unfold accW at h
          rw [← HE.out, ← HPN.out] at h
          exact h
        · have := HA.out.2
          have := HVL.out
          have := HN.out.2.2.2.1
          omega
    · have hxz : ¬ (x : Int) < (l.length : Int) := by omega
      have h := HA.out.1
      rw [List.drop_eq_nil_of_le (by omega)] at h
      have HE := Aside0.mk (show acc = T from h)
      clear h
      go_wp2_with fail
      go_ret
      exact ⟨by rw [HE.out]; rfl, HB.out⟩
theorem cells_new (W : World) (c : Array Value) (t : TypeId) (i : Nat) : (W.alloc (.cells c t)).cell? ⟨W.heap.size, i, none⟩ = c[i]? := by
  have h : (W.alloc (.cells c t)).heap[W.heap.size]? = some (.cells c t) := by unfold World.alloc; exact Array.getElem?_push_size
  unfold World.cell?
  simp only [h]
  rfl
theorem trn_new {n q f u : Nat} {l : List Nat} {A : Option Addr} {c : Nat} {w : World} (hr : Kd.C (Kd.int .i64) w A (natsI l).length (natsI l)) :
    TrnAt n q f u l (w.heap.size + 1) w.heap.size (w.heap.size + 1 + 1) A c (((w.alloc (.cells #[.int .i64 (n : Int), .int .i64 (q : Int), .int .i64 (f : Int)] 80)).alloc (.cells #[.slice A l.length c] 22)).alloc (.cells #[.int .i64 (u : Int)] 3)) := by
  have s1 : (w.alloc (.cells #[.int .i64 (n : Int), .int .i64 (q : Int), .int .i64 (f : Int)] 80)).heap.size = w.heap.size + 1 := World.size_alloc _ _
  have s2 : ((w.alloc (.cells #[.int .i64 (n : Int), .int .i64 (q : Int), .int .i64 (f : Int)] 80)).alloc (.cells #[.slice A l.length c] 22)).heap.size = w.heap.size + 2 := by rw [World.size_alloc, s1]
  have c1 := fun i => cells_new w #[.int .i64 (n : Int), .int .i64 (q : Int), .int .i64 (f : Int)] 80 i
  have c2 := cells_new (w.alloc (.cells #[.int .i64 (n : Int), .int .i64 (q : Int), .int .i64 (f : Int)] 80)) #[.slice A l.length c] 22 0
  have c3 := cells_new ((w.alloc (.cells #[.int .i64 (n : Int), .int .i64 (q : Int), .int .i64 (f : Int)] 80)).alloc (.cells #[.slice A l.length c] 22)) #[.int .i64 (u : Int)] 3 0
  rw [s1] at c2
  rw [s2] at c3
  have hb : ∀ (W : World) (o : Obj), Below W.heap.size W (W.alloc o) := fun W o => below_alloc (Below.refl _ _) o
  exact ⟨cell_to c2 (hb _ _), cell_to (cell_to (c1 0) (hb _ _)) (hb _ _), cell_to (cell_to (c1 1) (hb _ _)) (hb _ _), cell_to (cell_to (c1 2) (hb _ _)) (hb _ _), c3, Kd.C_alloc (Kd.C_alloc (Kd.C_alloc hr _) _) _⟩
set_option maxHeartbeats 8000000 in
set_option maxRecDepth 100000 in
theorem turned_calls (n q f u : Nat) (l : List Nat) (A : Option Addr) (c : Nat) (hn1 : 1 ≤ n) (hn : n ≤ 16) (hq : 2 ≤ q) (hq2 : q ≤ 1000) (hu : u < q) (hl : l.length ≤ 16) (hlq : ∀ x ∈ l, x < q) (w : World) (hr : Kd.C (Kd.int .i64) w A (natsI l).length (natsI l)) :
    Calls Tryd.prog 95 #[.agg #[.int .i64 (n : Int), .int .i64 (q : Int), .int .i64 (f : Int)], .slice A l.length c, .int .i64 (u : Int)] w fun e w' => ∃ v, e = .returned v ∧ Kd.R (Kd.int .i64) 3 w' w.heap.size (fun _ => True) v (wheelL n q (turnedV q n u l)) ∧ Below w.heap.size w w' := by
  have HT := Aside0.mk (trn_new (n := n) (q := q) (f := f) (u := u) (l := l) (A := A) (c := c) (w := w) hr)
  have HW := Aside0.mk (fun (V : World) (hV : TrnAt n q f u l (w.heap.size + 1) w.heap.size (w.heap.size + 1 + 1) A c V) => wheel_calls n q f 122 (by omega) (by omega) (by omega) #[.pointer (some ⟨w.heap.size + 1, 0, none⟩), .pointer (some ⟨w.heap.size, 0, none⟩), .pointer (some ⟨w.heap.size + 1 + 1, 0, none⟩)] (turnedV q n u l) (fun k hk => by
    have := accW_le (n := n) (u := u) (k := k) (q := q) (by omega) l 0 0
    have h2 : l.length * q ≤ 16 * 1000 := Nat.mul_le_mul hl hq2
    unfold turnedV
    omega) V (fun args W => enters_ Tryd.func122 (by kernel_rfl) rfl args W) (fun W k hk hb => turned1_calls n q f u l _ _ _ A c k hn1 hn hq hq2 hu hl hlq hk W (hV.to hb)))
  have hmf : ∀ (fn : Fn) (first cap : Array Value) (w : World), (Instr.makeFunc fn first cap).run Tryd.prog w = .ok (.func fn first cap) w := fun _ _ _ _ => rfl
  clear hr hlq
  go_enter Tryd.func95, Tryd.ntmps95
  have HB := Aside0.mk (show Below w.heap.size w (((w.alloc (.cells #[.int .i64 (n : Int), .int .i64 (q : Int), .int .i64 (f : Int)] 80)).alloc (.cells #[.slice A l.length c] 22)).alloc (.cells #[.int .i64 (u : Int)] 3)) from below_alloc (below_alloc (below_alloc (Below.refl _ _) _) _) _)
  go_wp2_with fail
  refine (HW.out _ HT.out).mono ?_
  rintro e w7 ⟨v, rfl, hr7, hb7⟩
  have HX := Aside0.mk (And.intro (Kd.R_lower hr7 (below_size HB.out)) (below_step HB.out hb7))
  clear hr7 hb7
  go_wp2
  go_ret
  exact ⟨v, rfl, HX.out.1, HX.out.2⟩

end Go.Proofs.YtfpnojcbhbkfaaaDoor.P
namespace Go.Proofs.YtfpnojcbhbkfaaaDoor.P
open Go.RowKit Go.Proofs.YtfpnojcbhbkfaaaDoorW.PrintWords Go.Proofs.YtfpnojcbhbkfaaaDoorW.PrintLast Go.Proofs.YtfpnojcbhbkfaaaDoorW.PrintMore
attribute [local go_sem] max2_int min2_int max_two min_two max_three min_three max_four min_four   -- for this text's walks alone
set_option linter.unusedVariables false
set_option linter.unusedSimpArgs false

/-! ### wheels_isPrime: function 106 -/
def wheels_isPrime.l0 : Nat → Int → Int → Option (Bool)
  | 0, _, _ => none
  | k + 1, x0, x3 => if (wrap64 (x3 * x3)) ≤ x0 then (if x3 = 0 then (none) else (if (Int.tmod x0 x3) = 0 then (some false) else (wheels_isPrime.l0 k x0 (wrap64 (x3 + 1))))) else (some (decide (x0 > 1)))
def wheels_isPrime.f (k : Nat) (a0 : Int) : Option (Bool) := wheels_isPrime.l0 k a0 2
theorem wheels_isPrime.mono_l : ∀ k, (∀ y0 y1, LeO (wheels_isPrime.l0 k y0 y1) (wheels_isPrime.l0 (k + 1) y0 y1))
  | 0 => fun _ _ r h => by simp [wheels_isPrime.l0] at h
  | k + 1 => by
    have ih0 := wheels_isPrime.mono_l k
    · intro y0 y1
      unfold wheels_isPrime.l0
      repeat' first
      | (with_reducible exact ih0 _ _)
      | (with_reducible exact LeO.refl _)
      | (with_reducible exact LeO.none _)
      | (with_reducible refine LeO.ite ?_ ?_)
      | (with_reducible refine LeO.bind ?_ (fun _ => ?_))
      | exact ih0 _ _
      | exact LeO.none _
      | refine LeO.ite ?_ ?_
      | refine LeO.bind ?_ (fun _ => ?_)
theorem wheels_isPrime.mono : ∀ a0 k, LeO (wheels_isPrime.f k a0) (wheels_isPrime.f (k + 1) a0) := by
  intro a0 k
  have ih0 := wheels_isPrime.mono_l k
  unfold wheels_isPrime.f
  repeat' first
      | (with_reducible exact ih0 _ _)
      | (with_reducible exact LeO.refl _)
      | (with_reducible exact LeO.none _)
      | (with_reducible refine LeO.ite ?_ ?_)
      | (with_reducible refine LeO.bind ?_ (fun _ => ?_))
      | exact ih0 _ _
      | exact LeO.none _
      | refine LeO.ite ?_ ?_
      | refine LeO.bind ?_ (fun _ => ?_)
set_option maxHeartbeats 8000000 in
set_option maxRecDepth 100000 in
theorem wheels_isPrime.calls (k : Nat) (a0 : Int) (r : Bool) (w : World) (h : wheels_isPrime.f k a0 = some r) :
    Calls Tryd.prog 106 #[.int .i64 a0] w fun e w' => e = .returned (.bool r) ∧ Drawn0 w w' := by
  have H : (wheels_isPrime.l0 k a0 2) = some r := h
  clear h
  have H' := Aside0.mk H
  clear H
  go_enter Tryd.func106, Tryd.ntmps106
  go_wp2
  go_loopg [3] k (fun kq v3 w' => ∃ (x3_1 : Int), v3 = .int .i64 x3_1 ∧ Aside0 (wheels_isPrime.l0 kq a0 x3_1 = some r) ∧ Aside0 (kq ≤ k) ∧ Drawn0 w w')
  case atStart => exact ⟨(2), (by first | rfl | (simp; done) | (simp [*]; done)), H', ⟨Nat.le_refl _⟩, by repeat (first | exact Drawn0.refl _ | apply Drawn0.step)⟩
  case round =>
    clear H'
    try clear c1
    obtain ⟨x3_1, rfl, HA, HK1, ⟨m1, rfl⟩⟩ := hrel
    cases gk with
    | zero => exact absurd HA.out (by simp [wheels_isPrime.l0])
    | succ k1 =>
      have H := HA.out
      clear HA
      simp only [wheels_isPrime.l0] at H
      by_cases c2 : (wrap64 (x3_1 * x3_1)) ≤ a0
      · rw [if_pos c2] at H
        have c2b0 : decide ((wrap64 (x3_1 * x3_1)) ≤ a0) = true := decide_eq_true c2
        clear c2
        by_cases c3 : x3_1 = 0
        · rw [if_pos c3] at H
          exact absurd H (by simp)
        · rw [if_neg c3] at H
          have c3b0 : (x3_1 == 0) = false := beq_eq_false_iff_ne.mpr c3
          have c3b1 : (x3_1 != 0) = true := bne_iff_ne.mpr c3
          by_cases c4 : (Int.tmod a0 x3_1) = 0
          · rw [if_pos c4] at H
            have c4b0 : ((Int.tmod a0 x3_1) == 0) = true := beq_iff_eq.mpr c4
            have c4b1 : ((Int.tmod a0 x3_1) != 0) = false := bne_eq_false_iff_eq.mpr c4
            clear c4
            obtain rfl := Option.some.inj H
            go_wp2
            go_ret
            exact ⟨by first | rfl | (simp; done) | (simp [*]; done), by repeat (first | exact Drawn0.refl _ | apply Drawn0.step)⟩
          · rw [if_neg c4] at H
            have c4b0 : ((Int.tmod a0 x3_1) == 0) = false := beq_eq_false_iff_ne.mpr c4
            have c4b1 : ((Int.tmod a0 x3_1) != 0) = true := bne_iff_ne.mpr c4
            have H' := Aside0.mk H
            clear H
            go_wp2
            go_roundg k1
            case measure => have := HK1.out; omega
            case rel => exact ⟨(wrap64 (x3_1 + 1)), (by first | rfl | (simp; done) | (simp [*]; done)), H', ⟨by have := HK1.out; omega⟩, by repeat (first | exact Drawn0.refl _ | apply Drawn0.step)⟩
      · rw [if_neg c2] at H
        have c2b0 : decide ((wrap64 (x3_1 * x3_1)) ≤ a0) = false := decide_eq_false c2
        clear c2
        obtain rfl := Option.some.inj H
        go_wp2
        go_ret
        exact ⟨by first | rfl | (simp; done) | (simp [*]; done), by repeat (first | exact Drawn0.refl _ | apply Drawn0.step)⟩

end Go.Proofs.YtfpnojcbhbkfaaaDoor.P
namespace Go.Proofs.YtfpnojcbhbkfaaaDoor.P
open Go.RowKit Go.Proofs.YtfpnojcbhbkfaaaDoorW.PrintWords Go.Proofs.YtfpnojcbhbkfaaaDoorW.PrintLast Go.Proofs.YtfpnojcbhbkfaaaDoorW.PrintMore
attribute [local go_sem] max2_int min2_int max_two min_two max_three min_three max_four min_four   -- for this text's walks alone
set_option linter.unusedVariables false
set_option linter.unusedSimpArgs false

/-! ### wheels_field_order: function 107 -/
def wheels_field_order.l0 : Nat → Int → Int → Int → Int → Int → Int → Option (Int)
  | 0, _, _, _, _, _, _ => none
  | k + 1, x1, x5, x6, x1002000, x1002001, x1002002 => if x6 = 1 then (some x5) else (if x1002001 = 0 then (none) else (wheels_field_order.l0 k x1 (wrap64 (x5 + 1)) (Int.tmod (wrap64 (x6 * x1)) x1002001) x1002000 x1002001 x1002002))
def wheels_field_order.f (k : Nat) (a0_0 : Int) (a0_1 : Int) (a0_2 : Int) (a1 : Int) : Option (Int) := wheels_field_order.l0 k a1 1 a1 a0_0 a0_1 a0_2
theorem wheels_field_order.mono_l : ∀ k, (∀ y0 y1 y2 y3 y4 y5, LeO (wheels_field_order.l0 k y0 y1 y2 y3 y4 y5) (wheels_field_order.l0 (k + 1) y0 y1 y2 y3 y4 y5))
  | 0 => fun _ _ _ _ _ _ r h => by simp [wheels_field_order.l0] at h
  | k + 1 => by
    have ih0 := wheels_field_order.mono_l k
    · intro y0 y1 y2 y3 y4 y5
      unfold wheels_field_order.l0
      repeat' first
      | (with_reducible exact ih0 _ _ _ _ _ _)
      | (with_reducible exact LeO.refl _)
      | (with_reducible exact LeO.none _)
      | (with_reducible refine LeO.ite ?_ ?_)
      | (with_reducible refine LeO.bind ?_ (fun _ => ?_))
      | exact ih0 _ _ _ _ _ _
      | exact LeO.none _
      | refine LeO.ite ?_ ?_
      | refine LeO.bind ?_ (fun _ => ?_)
theorem wheels_field_order.mono : ∀ a0 a1 a2 a3 k, LeO (wheels_field_order.f k a0 a1 a2 a3) (wheels_field_order.f (k + 1) a0 a1 a2 a3) := by
  intro a0 a1 a2 a3 k
  have ih0 := wheels_field_order.mono_l k
  unfold wheels_field_order.f
  repeat' first
      | (with_reducible exact ih0 _ _ _ _ _ _)
      | (with_reducible exact LeO.refl _)
      | (with_reducible exact LeO.none _)
      | (with_reducible refine LeO.ite ?_ ?_)
      | (with_reducible refine LeO.bind ?_ (fun _ => ?_))
      | exact ih0 _ _ _ _ _ _
      | exact LeO.none _
      | refine LeO.ite ?_ ?_
      | refine LeO.bind ?_ (fun _ => ?_)
set_option maxHeartbeats 8000000 in
set_option maxRecDepth 100000 in
theorem wheels_field_order.calls (k : Nat) (a0_0 : Int) (a0_1 : Int) (a0_2 : Int) (a1 : Int) (r : Int) (w : World) (h : wheels_field_order.f k a0_0 a0_1 a0_2 a1 = some r) :
    Calls Tryd.prog 107 #[.agg #[.int .i64 a0_0, .int .i64 a0_1, .int .i64 a0_2], .int .i64 a1] w fun e w' => e = .returned (.int .i64 r) ∧ Below w.heap.size w w' := by
  have hu80 := Tryd.underlying80
  have HB := Aside0.mk (Below.refl w.heap.size w)
  have H : (wheels_field_order.l0 k a1 1 a1 a0_0 a0_1 a0_2) = some r := h
  clear h
  have H' := Aside0.mk H
  clear H
  go_enter Tryd.func107, Tryd.ntmps107
  go_wp2_with (first | ((with_reducible refine gate_dst (N := 2) rfl ?_); refine box_event ?hg (N := 2) ?hd (cs := #[.int .i64 a0_0, .int .i64 a0_1, .int .i64 a0_2]) (t := 80) ?hr ?_; (case hd => rfl); (case hg => rfl); (case hr => first | (go_simp; done) | (go_simp; rfl)); intro gb1001 hg w3 hbox hb; have n0_ := Aside0.mk (below_step (by repeat (first | (with_reducible first | exact HB.out | apply below_alloc | apply pw_below_drewN | apply below_drew1) | exact HB.out)) hb); have n1_ := Aside0.mk (hbox); have n2_ := Aside0.mk ((by rw [hg]; exact (below_size (by repeat (first | (with_reducible first | exact HB.out | apply below_alloc | apply pw_below_drewN | apply below_drew1) | exact HB.out))) : w.heap.size ≤ gb1001)); have n3_ := Aside0.mk ((by rw [hg]; exact (below_size (by repeat (first | (with_reducible first | exact HB.out | apply below_alloc | apply pw_below_drewN | apply below_drew1) | exact HB.out))) : w.heap.size ≤ gb1001)); clear HB; have HB := n0_; have BK1001 := n1_; have GW1001 := n2_; have GE1001 := n3_; clear n0_ n1_ n2_ n3_; clear hb hbox hg))
  go_loopg [5, 6] k (fun kq v5 v6 w' => ∃ (x5_1 : Int) (x6_1 : Int), v5 = .int .i64 x5_1 ∧ v6 = .int .i64 x6_1 ∧ Aside0 (wheels_field_order.l0 kq a1 x5_1 x6_1 a0_0 a0_1 a0_2 = some r) ∧ Aside0 (kq ≤ k) ∧ Aside0 (w'.heap[gb1001]? = some (.cells #[.int .i64 a0_0, .int .i64 a0_1, .int .i64 a0_2] 80 (0, 0))) ∧ Aside0 (Below w.heap.size w w'))
  case atStart => exact ⟨(1), (a1), (by first | rfl | (simp; done) | (simp [*]; done)), (by first | rfl | (simp; done) | (simp [*]; done)), H', ⟨Nat.le_refl _⟩, ⟨by (with_reducible repeat (first | refine blk_drewN ?_ _ | refine blk_drew ?_ | refine blk_alloc ?_ _)); exact BK1001.out⟩, ⟨by repeat (first | (with_reducible first | exact HB.out | apply below_alloc | apply pw_below_drewN | apply below_drew1 | refine below_set ?_ GE1001.out) | exact HB.out)⟩⟩
  case round =>
    clear H'
    try clear c1
    try clear p2
    obtain ⟨x5_1, x6_1, rfl, rfl, HA, HK1, BK1001, HB⟩ := hrel
    cases gk with
    | zero => exact absurd HA.out (by simp [wheels_field_order.l0])
    | succ k1 =>
      have H := HA.out
      clear HA
      simp only [wheels_field_order.l0] at H
      by_cases c4 : x6_1 = 1
      · rw [if_pos c4] at H
        have c4b0 : (x6_1 == 1) = true := beq_iff_eq.mpr c4
        have c4b1 : (x6_1 != 1) = false := bne_eq_false_iff_eq.mpr c4
        clear c4
        obtain rfl := Option.some.inj H
        go_wp2
        go_ret
        exact ⟨by first | rfl | (simp [errW_none, errW_some] <;> rfl) | (simp [*, errW_none, errW_some] <;> rfl), by repeat (first | (with_reducible first | exact HB.out | apply below_alloc | apply pw_below_drewN | apply below_drew1 | refine below_set ?_ GE1001.out) | exact HB.out)⟩
      · rw [if_neg c4] at H
        have c4b0 : (x6_1 == 1) = false := beq_eq_false_iff_ne.mpr c4
        have c4b1 : (x6_1 != 1) = true := bne_iff_ne.mpr c4
        by_cases c5 : a0_1 = 0
        · rw [if_pos c5] at H
          exact absurd H (by simp)
        · rw [if_neg c5] at H
          have c5b0 : (a0_1 == 0) = false := beq_eq_false_iff_ne.mpr c5
          have c5b1 : (a0_1 != 0) = true := bne_iff_ne.mpr c5
          have H' := Aside0.mk H
          clear H
          have hcz6_0 : wr.cell? ⟨gb1001, 0, none⟩ = some (.int .i64 a0_0) := (blk_cell BK1001.out 0).trans rfl
          have hcz6_1 : wr.cell? ⟨gb1001, 1, none⟩ = some (.int .i64 a0_1) := (blk_cell BK1001.out 1).trans rfl
          have hcz6_2 : wr.cell? ⟨gb1001, 2, none⟩ = some (.int .i64 a0_2) := (blk_cell BK1001.out 2).trans rfl
          have hfz6_0 := blk_frozen BK1001.out 0
          have hfz6_1 := blk_frozen BK1001.out 1
          have hfz6_2 := blk_frozen BK1001.out 2
          go_wp2
          go_roundg k1
          case measure => have := HK1.out; omega
          case rel => exact ⟨(wrap64 (x5_1 + 1)), (Int.tmod (wrap64 (x6_1 * a1)) a0_1), (by first | rfl | (simp; done) | (simp [*]; done)), (by first | rfl | (simp; done) | (simp [*]; done)), H', ⟨by have := HK1.out; omega⟩, ⟨by (with_reducible repeat (first | refine blk_drewN ?_ _ | refine blk_drew ?_ | refine blk_alloc ?_ _)); exact BK1001.out⟩, ⟨by repeat (first | (with_reducible first | exact HB.out | apply below_alloc | apply pw_below_drewN | apply below_drew1 | refine below_set ?_ GE1001.out) | exact HB.out)⟩⟩

end Go.Proofs.YtfpnojcbhbkfaaaDoor.P
