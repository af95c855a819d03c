/- A part of a proof that a law's Go function returns true for every input, laid by this session's program mp.py (which drives the kit's print). Conditions: as each theorem states them. -/
import Derived.Test.YtfpnojcbhbkfaaaDoorProg
import Derived.Below
import Derived.Deep.Draws
import Derived.Deep.AppendLies
import Derived.Maps.AppendAt
import Derived.OwnWalk
import Derived.Laws.BytesArg
import Derived.Laws.MakeOwn
import Derived.Laws.OwnMore
import Derived.Deep.OwnRows
import Derived.Tactics
import Derived.Lib.ConvBytes
import Derived.Laws.Slices
import Derived.WalkKit
import Derived.KernelRfl
import Derived.RowKit3
import Derived.Deep.LoopGhost
import Derived.Deep.QuietTactic
import Derived.BigQuiet
import Derived.WideLaws
import Derived.Deep.DeepCutAuto
import Derived.Deep.CutBlock
import Derived.Deep.RegionHeld3
import Derived.Laws.Rows
import Derived.Lib.AppendStr
import Derived.ArgAppend
import Derived.Laws.IdiomCopy
import Derived.OrdersHeld
import Derived.Laws.BitsLemmas
import Derived.RowKit
import Derived.Test.YtfpnojcbhbkfaaaDoorWWords
import Derived.Test.YtfpnojcbhbkfaaaDoorWLast
import Derived.Test.YtfpnojcbhbkfaaaDoorWTab
import Derived.Test.YtfpnojcbhbkfaaaDoorWFour
import Derived.Test.YtfpnojcbhbkfaaaDoorWQPut
import Derived.Test.YtfpnojcbhbkfaaaDoorWApart
import Derived.Test.YtfpnojcbhbkfaaaDoorWArr
import Derived.Test.YtfpnojcbhbkfaaaDoorWZeros
import Derived.Test.YtfpnojcbhbkfaaaDoorWFoot
import Derived.Test.YtfpnojcbhbkfaaaDoorWKept
import Derived.Test.YtfpnojcbhbkfaaaDoorWShare
import Derived.Test.YtfpnojcbhbkfaaaDoorWN
import Derived.Test.YtfpnojcbhbkfaaaDoorWFootNe
import Derived.Test.YtfpnojcbhbkfaaaDoorWAt
import Derived.Test.YtfpnojcbhbkfaaaDoorWEqStruct
import Derived.Test.YtfpnojcbhbkfaaaDoorWRepsOne
import Derived.Test.YtfpnojcbhbkfaaaDoorWInv
import Derived.Test.YtfpnojcbhbkfaaaDoorWInvWords
import Derived.Test.YtfpnojcbhbkfaaaDoorWGuard
import Derived.Test.YtfpnojcbhbkfaaaDoorWNEv
import Derived.Test.YtfpnojcbhbkfaaaDoorWMore
import Derived.RangeFuncNested
import Derived.RangeFuncBound
import Derived.RangeFuncCalls
import Derived.Shelf.Abstract
namespace Go.Proofs.YtfpnojcbhbkfaaaDoor.P
open Go.RowKit Go.Proofs.YtfpnojcbhbkfaaaDoorW.PrintWords Go.Proofs.YtfpnojcbhbkfaaaDoorW.PrintLast Go.Proofs.YtfpnojcbhbkfaaaDoorW.PrintMore
attribute [local go_sem] max2_int min2_int max_two min_two max_three min_three max_four min_four   -- for this text's walks alone
set_option linter.unusedVariables false
set_option linter.unusedSimpArgs false



def errW : Option Int → Value
  | none => .nilIface
  | some c => .iface 0 (.int .i64 c)
theorem errW_none : errW none = .nilIface := rfl
theorem errW_some (c : Int) : errW (some c) = .iface 0 (.int .i64 c) := rfl

theorem info3 : (Tryd.prog.info? 3).map (fun i => (i.zero, i.size, i.bytes)) = some (some (.int .i64 0), 1, 8) := by kernel_rfl
theorem info5 : (Tryd.prog.info? 5).map (fun i => (i.zero, i.size, i.bytes)) = some (some (.int .u8 0), 1, 1) := by kernel_rfl
theorem info22 : (Tryd.prog.info? 22).map (fun i => (i.zero, i.size, i.bytes)) = some (some (.slice none 0 0), 1, 24) := by kernel_rfl
theorem info38 : (Tryd.prog.info? 38).map (fun i => (i.zero, i.size, i.bytes)) = some (some (.agg #[(.int .i64 0), (.int .i64 0)]), 2, 16) := by kernel_rfl
-- the values' own types
/-! #### struct type 7 -/
structure S7 where
  f0 : Int
  f1 : Int
  f2 : Bool
  f3 : Int
def z7 : S7 := ⟨(0 : Int), (0 : Int), false, (0 : Int)⟩
def k7 : Kd S7 := Kd.iso (Kd.pair (Kd.int .i64) (Kd.pair (Kd.int .i64) (Kd.pair Kd.bool (Kd.int .u8)))) (fun x : S7 => (x.f0, x.f1, x.f2, x.f3))
theorem k7_open {w : World} {x : S7} {cs : List Value} (h : k7.K w x cs) : cs = [.int .i64 x.f0, .int .i64 x.f1, .bool x.f2, .int .u8 x.f3] := by
  obtain ⟨_, _, rfl, rfl, ⟨_, _, rfl, rfl, ⟨_, _, rfl, rfl, rfl⟩⟩⟩ := h
  exact rfl
theorem k7_openM {w : World} {base : Nat} {ok : Nat → Prop} {x : S7} {cs : List Value} (h : k7.M w base ok x cs) : cs = [.int .i64 x.f0, .int .i64 x.f1, .bool x.f2, .int .u8 x.f3] := by
  obtain ⟨_, _, rfl, rfl, ⟨_, _, rfl, rfl, ⟨_, _, rfl, rfl, rfl⟩⟩⟩ := h
  exact rfl
theorem k7_mk (w : World) (x : S7)  : k7.K w x [.int .i64 x.f0, .int .i64 x.f1, .bool x.f2, .int .u8 x.f3] := ⟨[.int .i64 x.f0], [.int .i64 x.f1, .bool x.f2, .int .u8 x.f3], rfl, rfl, ⟨[.int .i64 x.f1], [.bool x.f2, .int .u8 x.f3], rfl, rfl, ⟨[.bool x.f2], [.int .u8 x.f3], rfl, rfl, rfl⟩⟩⟩
theorem k7_mkM (w : World) (base : Nat) (ok : Nat → Prop) (x : S7)  : k7.M w base ok x [.int .i64 x.f0, .int .i64 x.f1, .bool x.f2, .int .u8 x.f3] := ⟨[.int .i64 x.f0], [.int .i64 x.f1, .bool x.f2, .int .u8 x.f3], rfl, rfl, ⟨[.int .i64 x.f1], [.bool x.f2, .int .u8 x.f3], rfl, rfl, ⟨[.bool x.f2], [.int .u8 x.f3], rfl, rfl, rfl⟩⟩⟩
def rd_T7 (xs : List S7) (i : Int) : S7 := xs.getD i.toNat z7
theorem at_T7 {w : World} {A : Option Addr} {n : Nat} {xs : List S7} (h : Kd.C k7 w A n xs) (i : Int) (h0 : 0 ≤ i) (h1 : i < n) : ∃ ad , A = some ad ∧ w.cell? (ad.add (i.toNat * 4)) = some (.int .i64 (rd_T7 xs i).f0) ∧ w.cell? ⟨(ad.add (i.toNat * 4)).block, (ad.add (i.toNat * 4)).off + 1, none⟩ = some (.int .i64 (rd_T7 xs i).f1) ∧ w.cell? ⟨(ad.add (i.toNat * 4)).block, (ad.add (i.toNat * 4)).off + 2, none⟩ = some (.bool (rd_T7 xs i).f2) ∧ w.cell? ⟨(ad.add (i.toNat * 4)).block, (ad.add (i.toNat * 4)).off + 3, none⟩ = some (.int .u8 (rd_T7 xs i).f3) := by
  obtain ⟨ad, c, e, _, hK, hc0⟩ := Kd.C_get h z7 i h0 h1
  have hc : ∀ j u, c[j]? = some u → w.cell? (ad.add (i.toNat * 4 + j)) = some u := hc0
  obtain rfl := k7_open hK
  exact ⟨ad, e, hc 0 _ rfl, by rw [← add_field _ _ 1 (by omega)]; exact hc 1 _ rfl, by rw [← add_field _ _ 2 (by omega)]; exact hc 2 _ rfl, by rw [← add_field _ _ 3 (by omega)]; exact hc 3 _ rfl⟩

/-! #### struct type 8 -/
structure S8 where
  f0 : Int
  f1 : Int
  f2 : Bool
  f3 : Int
def z8 : S8 := ⟨(0 : Int), (0 : Int), false, (0 : Int)⟩
def k8 : Kd S8 := Kd.iso (Kd.pair (Kd.int .i64) (Kd.pair (Kd.int .i64) (Kd.pair Kd.bool (Kd.int .u8)))) (fun x : S8 => (x.f0, x.f1, x.f2, x.f3))
theorem k8_open {w : World} {x : S8} {cs : List Value} (h : k8.K w x cs) : cs = [.int .i64 x.f0, .int .i64 x.f1, .bool x.f2, .int .u8 x.f3] := by
  obtain ⟨_, _, rfl, rfl, ⟨_, _, rfl, rfl, ⟨_, _, rfl, rfl, rfl⟩⟩⟩ := h
  exact rfl
theorem k8_openM {w : World} {base : Nat} {ok : Nat → Prop} {x : S8} {cs : List Value} (h : k8.M w base ok x cs) : cs = [.int .i64 x.f0, .int .i64 x.f1, .bool x.f2, .int .u8 x.f3] := by
  obtain ⟨_, _, rfl, rfl, ⟨_, _, rfl, rfl, ⟨_, _, rfl, rfl, rfl⟩⟩⟩ := h
  exact rfl
theorem k8_mk (w : World) (x : S8)  : k8.K w x [.int .i64 x.f0, .int .i64 x.f1, .bool x.f2, .int .u8 x.f3] := ⟨[.int .i64 x.f0], [.int .i64 x.f1, .bool x.f2, .int .u8 x.f3], rfl, rfl, ⟨[.int .i64 x.f1], [.bool x.f2, .int .u8 x.f3], rfl, rfl, ⟨[.bool x.f2], [.int .u8 x.f3], rfl, rfl, rfl⟩⟩⟩
theorem k8_mkM (w : World) (base : Nat) (ok : Nat → Prop) (x : S8)  : k8.M w base ok x [.int .i64 x.f0, .int .i64 x.f1, .bool x.f2, .int .u8 x.f3] := ⟨[.int .i64 x.f0], [.int .i64 x.f1, .bool x.f2, .int .u8 x.f3], rfl, rfl, ⟨[.int .i64 x.f1], [.bool x.f2, .int .u8 x.f3], rfl, rfl, ⟨[.bool x.f2], [.int .u8 x.f3], rfl, rfl, rfl⟩⟩⟩
def rd_T8 (xs : List S8) (i : Int) : S8 := xs.getD i.toNat z8
theorem at_T8 {w : World} {A : Option Addr} {n : Nat} {xs : List S8} (h : Kd.C k8 w A n xs) (i : Int) (h0 : 0 ≤ i) (h1 : i < n) : ∃ ad , A = some ad ∧ w.cell? (ad.add (i.toNat * 4)) = some (.int .i64 (rd_T8 xs i).f0) ∧ w.cell? ⟨(ad.add (i.toNat * 4)).block, (ad.add (i.toNat * 4)).off + 1, none⟩ = some (.int .i64 (rd_T8 xs i).f1) ∧ w.cell? ⟨(ad.add (i.toNat * 4)).block, (ad.add (i.toNat * 4)).off + 2, none⟩ = some (.bool (rd_T8 xs i).f2) ∧ w.cell? ⟨(ad.add (i.toNat * 4)).block, (ad.add (i.toNat * 4)).off + 3, none⟩ = some (.int .u8 (rd_T8 xs i).f3) := by
  obtain ⟨ad, c, e, _, hK, hc0⟩ := Kd.C_get h z8 i h0 h1
  have hc : ∀ j u, c[j]? = some u → w.cell? (ad.add (i.toNat * 4 + j)) = some u := hc0
  obtain rfl := k8_open hK
  exact ⟨ad, e, hc 0 _ rfl, by rw [← add_field _ _ 1 (by omega)]; exact hc 1 _ rfl, by rw [← add_field _ _ 2 (by omega)]; exact hc 2 _ rfl, by rw [← add_field _ _ 3 (by omega)]; exact hc 3 _ rfl⟩

/-! #### struct type 13 -/
structure S13 where
  f0 : ByteArray
  f1 : Int
def z13 : S13 := ⟨(⟨#[]⟩ : ByteArray), (0 : Int)⟩
def k13 : Kd S13 := Kd.iso (Kd.pair Kd.string (Kd.int .u64)) (fun x : S13 => (x.f0, x.f1))
theorem k13_open {w : World} {x : S13} {cs : List Value} (h : k13.K w x cs) : cs = [.string x.f0, .int .u64 x.f1] := by
  obtain ⟨_, _, rfl, rfl, rfl⟩ := h
  exact rfl
theorem k13_openM {w : World} {base : Nat} {ok : Nat → Prop} {x : S13} {cs : List Value} (h : k13.M w base ok x cs) : cs = [.string x.f0, .int .u64 x.f1] := by
  obtain ⟨_, _, rfl, rfl, rfl⟩ := h
  exact rfl
theorem k13_mk (w : World) (x : S13)  : k13.K w x [.string x.f0, .int .u64 x.f1] := ⟨[.string x.f0], [.int .u64 x.f1], rfl, rfl, rfl⟩
theorem k13_mkM (w : World) (base : Nat) (ok : Nat → Prop) (x : S13)  : k13.M w base ok x [.string x.f0, .int .u64 x.f1] := ⟨[.string x.f0], [.int .u64 x.f1], rfl, rfl, rfl⟩
def rd_T13 (xs : List S13) (i : Int) : S13 := xs.getD i.toNat z13
theorem at_T13 {w : World} {A : Option Addr} {n : Nat} {xs : List S13} (h : Kd.C k13 w A n xs) (i : Int) (h0 : 0 ≤ i) (h1 : i < n) : ∃ ad , A = some ad ∧ w.cell? (ad.add (i.toNat * 2)) = some (.string (rd_T13 xs i).f0) ∧ w.cell? ⟨(ad.add (i.toNat * 2)).block, (ad.add (i.toNat * 2)).off + 1, none⟩ = some (.int .u64 (rd_T13 xs i).f1) := by
  obtain ⟨ad, c, e, _, hK, hc0⟩ := Kd.C_get h z13 i h0 h1
  have hc : ∀ j u, c[j]? = some u → w.cell? (ad.add (i.toNat * 2 + j)) = some u := hc0
  obtain rfl := k13_open hK
  exact ⟨ad, e, hc 0 _ rfl, by rw [← add_field _ _ 1 (by omega)]; exact hc 1 _ rfl⟩

/-! #### struct type 14 -/
structure S14 where
  f0 : ByteArray
  f1 : Int
def z14 : S14 := ⟨(⟨#[]⟩ : ByteArray), (0 : Int)⟩
def k14 : Kd S14 := Kd.iso (Kd.pair Kd.string (Kd.int .u64)) (fun x : S14 => (x.f0, x.f1))
theorem k14_open {w : World} {x : S14} {cs : List Value} (h : k14.K w x cs) : cs = [.string x.f0, .int .u64 x.f1] := by
  obtain ⟨_, _, rfl, rfl, rfl⟩ := h
  exact rfl
theorem k14_openM {w : World} {base : Nat} {ok : Nat → Prop} {x : S14} {cs : List Value} (h : k14.M w base ok x cs) : cs = [.string x.f0, .int .u64 x.f1] := by
  obtain ⟨_, _, rfl, rfl, rfl⟩ := h
  exact rfl
theorem k14_mk (w : World) (x : S14)  : k14.K w x [.string x.f0, .int .u64 x.f1] := ⟨[.string x.f0], [.int .u64 x.f1], rfl, rfl, rfl⟩
theorem k14_mkM (w : World) (base : Nat) (ok : Nat → Prop) (x : S14)  : k14.M w base ok x [.string x.f0, .int .u64 x.f1] := ⟨[.string x.f0], [.int .u64 x.f1], rfl, rfl, rfl⟩
def rd_T14 (xs : List S14) (i : Int) : S14 := xs.getD i.toNat z14
theorem at_T14 {w : World} {A : Option Addr} {n : Nat} {xs : List S14} (h : Kd.C k14 w A n xs) (i : Int) (h0 : 0 ≤ i) (h1 : i < n) : ∃ ad , A = some ad ∧ w.cell? (ad.add (i.toNat * 2)) = some (.string (rd_T14 xs i).f0) ∧ w.cell? ⟨(ad.add (i.toNat * 2)).block, (ad.add (i.toNat * 2)).off + 1, none⟩ = some (.int .u64 (rd_T14 xs i).f1) := by
  obtain ⟨ad, c, e, _, hK, hc0⟩ := Kd.C_get h z14 i h0 h1
  have hc : ∀ j u, c[j]? = some u → w.cell? (ad.add (i.toNat * 2 + j)) = some u := hc0
  obtain rfl := k14_open hK
  exact ⟨ad, e, hc 0 _ rfl, by rw [← add_field _ _ 1 (by omega)]; exact hc 1 _ rfl⟩

def rd_L10 (xs : List (List Int)) (i : Int) : (List Int) := xs.getD i.toNat ([] : List Int)
theorem at_L10 {w : World} {A : Option Addr} {n : Nat} {xs : List (List Int)} (h : Kd.C (Kd.slice 3 (Kd.int .i64)) w A n xs) (i : Int) (h0 : 0 ≤ i) (h1 : i < n) : ∃ ad A0 c0, A = some ad ∧ w.cell? (ad.add i.toNat) = some (.slice A0 (rd_L10 xs i).length c0) ∧ (rd_L10 xs i).length ≤ c0 ∧ (Kd.int .i64).C w A0 (rd_L10 xs i).length (rd_L10 xs i) := by
  obtain ⟨ad, c, e, _, hK, hc0⟩ := Kd.C_get h ([] : List Int) i h0 h1
  have hc : ∀ j u, c[j]? = some u → w.cell? (ad.add (i.toNat * 1 + j)) = some u := hc0
  obtain ⟨A0, c0, rfl, l0, g0⟩ := hK
  exact ⟨ad, A0, c0, e, by have hq := hc 0 _ rfl; rwa [Nat.mul_one, Nat.add_zero] at hq, l0, g0⟩

/-! #### struct type 38 -/
structure S38 where
  f0 : Int
  f1 : Int
def z38 : S38 := ⟨(0 : Int), (0 : Int)⟩
def k38 : Kd S38 := Kd.iso (Kd.pair (Kd.int .i64) (Kd.int .i64)) (fun x : S38 => (x.f0, x.f1))
theorem k38_open {w : World} {x : S38} {cs : List Value} (h : k38.K w x cs) : cs = [.int .i64 x.f0, .int .i64 x.f1] := by
  obtain ⟨_, _, rfl, rfl, rfl⟩ := h
  exact rfl
theorem k38_openM {w : World} {base : Nat} {ok : Nat → Prop} {x : S38} {cs : List Value} (h : k38.M w base ok x cs) : cs = [.int .i64 x.f0, .int .i64 x.f1] := by
  obtain ⟨_, _, rfl, rfl, rfl⟩ := h
  exact rfl
theorem k38_mk (w : World) (x : S38)  : k38.K w x [.int .i64 x.f0, .int .i64 x.f1] := ⟨[.int .i64 x.f0], [.int .i64 x.f1], rfl, rfl, rfl⟩
theorem k38_mkM (w : World) (base : Nat) (ok : Nat → Prop) (x : S38)  : k38.M w base ok x [.int .i64 x.f0, .int .i64 x.f1] := ⟨[.int .i64 x.f0], [.int .i64 x.f1], rfl, rfl, rfl⟩
def rd_T38 (xs : List S38) (i : Int) : S38 := xs.getD i.toNat z38
theorem at_T38 {w : World} {A : Option Addr} {n : Nat} {xs : List S38} (h : Kd.C k38 w A n xs) (i : Int) (h0 : 0 ≤ i) (h1 : i < n) : ∃ ad , A = some ad ∧ w.cell? (ad.add (i.toNat * 2)) = some (.int .i64 (rd_T38 xs i).f0) ∧ w.cell? ⟨(ad.add (i.toNat * 2)).block, (ad.add (i.toNat * 2)).off + 1, none⟩ = some (.int .i64 (rd_T38 xs i).f1) := by
  obtain ⟨ad, c, e, _, hK, hc0⟩ := Kd.C_get h z38 i h0 h1
  have hc : ∀ j u, c[j]? = some u → w.cell? (ad.add (i.toNat * 2 + j)) = some u := hc0
  obtain rfl := k38_open hK
  exact ⟨ad, e, hc 0 _ rfl, by rw [← add_field _ _ 1 (by omega)]; exact hc 1 _ rfl⟩

def rd_L12 (xs : List (List S38)) (i : Int) : (List S38) := xs.getD i.toNat ([] : List S38)
theorem at_L12 {w : World} {A : Option Addr} {n : Nat} {xs : List (List S38)} (h : Kd.C (Kd.slice 38 k38) w A n xs) (i : Int) (h0 : 0 ≤ i) (h1 : i < n) : ∃ ad A0 c0, A = some ad ∧ w.cell? (ad.add i.toNat) = some (.slice A0 (rd_L12 xs i).length c0) ∧ (rd_L12 xs i).length ≤ c0 ∧ k38.C w A0 (rd_L12 xs i).length (rd_L12 xs i) := by
  obtain ⟨ad, c, e, _, hK, hc0⟩ := Kd.C_get h ([] : List S38) i h0 h1
  have hc : ∀ j u, c[j]? = some u → w.cell? (ad.add (i.toNat * 1 + j)) = some u := hc0
  obtain ⟨A0, c0, rfl, l0, g0⟩ := hK
  exact ⟨ad, A0, c0, e, by have hq := hc 0 _ rfl; rwa [Nat.mul_one, Nat.add_zero] at hq, l0, g0⟩

/-! #### struct type 43 -/
structure S43 where
  f0 : Int
  f1 : Int
  f2 : Int
def z43 : S43 := ⟨(0 : Int), (0 : Int), (0 : Int)⟩
def k43 : Kd S43 := Kd.iso (Kd.pair (Kd.int .i64) (Kd.pair (Kd.int .i64) (Kd.int .i64))) (fun x : S43 => (x.f0, x.f1, x.f2))
theorem k43_open {w : World} {x : S43} {cs : List Value} (h : k43.K w x cs) : cs = [.int .i64 x.f0, .int .i64 x.f1, .int .i64 x.f2] := by
  obtain ⟨_, _, rfl, rfl, ⟨_, _, rfl, rfl, rfl⟩⟩ := h
  exact rfl
theorem k43_openM {w : World} {base : Nat} {ok : Nat → Prop} {x : S43} {cs : List Value} (h : k43.M w base ok x cs) : cs = [.int .i64 x.f0, .int .i64 x.f1, .int .i64 x.f2] := by
  obtain ⟨_, _, rfl, rfl, ⟨_, _, rfl, rfl, rfl⟩⟩ := h
  exact rfl
theorem k43_mk (w : World) (x : S43)  : k43.K w x [.int .i64 x.f0, .int .i64 x.f1, .int .i64 x.f2] := ⟨[.int .i64 x.f0], [.int .i64 x.f1, .int .i64 x.f2], rfl, rfl, ⟨[.int .i64 x.f1], [.int .i64 x.f2], rfl, rfl, rfl⟩⟩
theorem k43_mkM (w : World) (base : Nat) (ok : Nat → Prop) (x : S43)  : k43.M w base ok x [.int .i64 x.f0, .int .i64 x.f1, .int .i64 x.f2] := ⟨[.int .i64 x.f0], [.int .i64 x.f1, .int .i64 x.f2], rfl, rfl, ⟨[.int .i64 x.f1], [.int .i64 x.f2], rfl, rfl, rfl⟩⟩
def rd_T43 (xs : List S43) (i : Int) : S43 := xs.getD i.toNat z43
theorem at_T43 {w : World} {A : Option Addr} {n : Nat} {xs : List S43} (h : Kd.C k43 w A n xs) (i : Int) (h0 : 0 ≤ i) (h1 : i < n) : ∃ ad , A = some ad ∧ w.cell? (ad.add (i.toNat * 3)) = some (.int .i64 (rd_T43 xs i).f0) ∧ w.cell? ⟨(ad.add (i.toNat * 3)).block, (ad.add (i.toNat * 3)).off + 1, none⟩ = some (.int .i64 (rd_T43 xs i).f1) ∧ w.cell? ⟨(ad.add (i.toNat * 3)).block, (ad.add (i.toNat * 3)).off + 2, none⟩ = some (.int .i64 (rd_T43 xs i).f2) := by
  obtain ⟨ad, c, e, _, hK, hc0⟩ := Kd.C_get h z43 i h0 h1
  have hc : ∀ j u, c[j]? = some u → w.cell? (ad.add (i.toNat * 3 + j)) = some u := hc0
  obtain rfl := k43_open hK
  exact ⟨ad, e, hc 0 _ rfl, by rw [← add_field _ _ 1 (by omega)]; exact hc 1 _ rfl, by rw [← add_field _ _ 2 (by omega)]; exact hc 2 _ rfl⟩

/-! #### struct type 44 -/
structure S44 where
  f0 : Int
  f1 : Int
  f2 : Int
def z44 : S44 := ⟨(0 : Int), (0 : Int), (0 : Int)⟩
def k44 : Kd S44 := Kd.iso (Kd.pair (Kd.int .i64) (Kd.pair (Kd.int .i64) (Kd.int .i64))) (fun x : S44 => (x.f0, x.f1, x.f2))
theorem k44_open {w : World} {x : S44} {cs : List Value} (h : k44.K w x cs) : cs = [.int .i64 x.f0, .int .i64 x.f1, .int .i64 x.f2] := by
  obtain ⟨_, _, rfl, rfl, ⟨_, _, rfl, rfl, rfl⟩⟩ := h
  exact rfl
theorem k44_openM {w : World} {base : Nat} {ok : Nat → Prop} {x : S44} {cs : List Value} (h : k44.M w base ok x cs) : cs = [.int .i64 x.f0, .int .i64 x.f1, .int .i64 x.f2] := by
  obtain ⟨_, _, rfl, rfl, ⟨_, _, rfl, rfl, rfl⟩⟩ := h
  exact rfl
theorem k44_mk (w : World) (x : S44)  : k44.K w x [.int .i64 x.f0, .int .i64 x.f1, .int .i64 x.f2] := ⟨[.int .i64 x.f0], [.int .i64 x.f1, .int .i64 x.f2], rfl, rfl, ⟨[.int .i64 x.f1], [.int .i64 x.f2], rfl, rfl, rfl⟩⟩
theorem k44_mkM (w : World) (base : Nat) (ok : Nat → Prop) (x : S44)  : k44.M w base ok x [.int .i64 x.f0, .int .i64 x.f1, .int .i64 x.f2] := ⟨[.int .i64 x.f0], [.int .i64 x.f1, .int .i64 x.f2], rfl, rfl, ⟨[.int .i64 x.f1], [.int .i64 x.f2], rfl, rfl, rfl⟩⟩
def rd_T44 (xs : List S44) (i : Int) : S44 := xs.getD i.toNat z44
theorem at_T44 {w : World} {A : Option Addr} {n : Nat} {xs : List S44} (h : Kd.C k44 w A n xs) (i : Int) (h0 : 0 ≤ i) (h1 : i < n) : ∃ ad , A = some ad ∧ w.cell? (ad.add (i.toNat * 3)) = some (.int .i64 (rd_T44 xs i).f0) ∧ w.cell? ⟨(ad.add (i.toNat * 3)).block, (ad.add (i.toNat * 3)).off + 1, none⟩ = some (.int .i64 (rd_T44 xs i).f1) ∧ w.cell? ⟨(ad.add (i.toNat * 3)).block, (ad.add (i.toNat * 3)).off + 2, none⟩ = some (.int .i64 (rd_T44 xs i).f2) := by
  obtain ⟨ad, c, e, _, hK, hc0⟩ := Kd.C_get h z44 i h0 h1
  have hc : ∀ j u, c[j]? = some u → w.cell? (ad.add (i.toNat * 3 + j)) = some u := hc0
  obtain rfl := k44_open hK
  exact ⟨ad, e, hc 0 _ rfl, by rw [← add_field _ _ 1 (by omega)]; exact hc 1 _ rfl, by rw [← add_field _ _ 2 (by omega)]; exact hc 2 _ rfl⟩

/-! #### struct type 49 -/
structure S49 where
  f0 : Int
  f1 : Int
  f2 : Int
def z49 : S49 := ⟨(0 : Int), (0 : Int), (0 : Int)⟩
def k49 : Kd S49 := Kd.iso (Kd.pair (Kd.int .i64) (Kd.pair (Kd.int .i64) (Kd.int .i64))) (fun x : S49 => (x.f0, x.f1, x.f2))
theorem k49_open {w : World} {x : S49} {cs : List Value} (h : k49.K w x cs) : cs = [.int .i64 x.f0, .int .i64 x.f1, .int .i64 x.f2] := by
  obtain ⟨_, _, rfl, rfl, ⟨_, _, rfl, rfl, rfl⟩⟩ := h
  exact rfl
theorem k49_openM {w : World} {base : Nat} {ok : Nat → Prop} {x : S49} {cs : List Value} (h : k49.M w base ok x cs) : cs = [.int .i64 x.f0, .int .i64 x.f1, .int .i64 x.f2] := by
  obtain ⟨_, _, rfl, rfl, ⟨_, _, rfl, rfl, rfl⟩⟩ := h
  exact rfl
theorem k49_mk (w : World) (x : S49)  : k49.K w x [.int .i64 x.f0, .int .i64 x.f1, .int .i64 x.f2] := ⟨[.int .i64 x.f0], [.int .i64 x.f1, .int .i64 x.f2], rfl, rfl, ⟨[.int .i64 x.f1], [.int .i64 x.f2], rfl, rfl, rfl⟩⟩
theorem k49_mkM (w : World) (base : Nat) (ok : Nat → Prop) (x : S49)  : k49.M w base ok x [.int .i64 x.f0, .int .i64 x.f1, .int .i64 x.f2] := ⟨[.int .i64 x.f0], [.int .i64 x.f1, .int .i64 x.f2], rfl, rfl, ⟨[.int .i64 x.f1], [.int .i64 x.f2], rfl, rfl, rfl⟩⟩
def rd_T49 (xs : List S49) (i : Int) : S49 := xs.getD i.toNat z49
theorem at_T49 {w : World} {A : Option Addr} {n : Nat} {xs : List S49} (h : Kd.C k49 w A n xs) (i : Int) (h0 : 0 ≤ i) (h1 : i < n) : ∃ ad , A = some ad ∧ w.cell? (ad.add (i.toNat * 3)) = some (.int .i64 (rd_T49 xs i).f0) ∧ w.cell? ⟨(ad.add (i.toNat * 3)).block, (ad.add (i.toNat * 3)).off + 1, none⟩ = some (.int .i64 (rd_T49 xs i).f1) ∧ w.cell? ⟨(ad.add (i.toNat * 3)).block, (ad.add (i.toNat * 3)).off + 2, none⟩ = some (.int .i64 (rd_T49 xs i).f2) := by
  obtain ⟨ad, c, e, _, hK, hc0⟩ := Kd.C_get h z49 i h0 h1
  have hc : ∀ j u, c[j]? = some u → w.cell? (ad.add (i.toNat * 3 + j)) = some u := hc0
  obtain rfl := k49_open hK
  exact ⟨ad, e, hc 0 _ rfl, by rw [← add_field _ _ 1 (by omega)]; exact hc 1 _ rfl, by rw [← add_field _ _ 2 (by omega)]; exact hc 2 _ rfl⟩

/-! #### struct type 64 -/
structure S64 where
  f0 : Int
  f1 : (List Int)
def z64 : S64 := ⟨(0 : Int), ([] : List Int)⟩
def k64 : Kd S64 := Kd.iso (Kd.pair (Kd.int .i64) (Kd.slice 3 (Kd.int .i64))) (fun x : S64 => (x.f0, x.f1))
theorem k64_open {w : World} {x : S64} {cs : List Value} (h : k64.K w x cs) : ∃ A1 c1, cs = [.int .i64 x.f0, .slice A1 x.f1.length c1] ∧ x.f1.length ≤ c1 ∧ (Kd.int .i64).C w A1 x.f1.length x.f1 := by
  obtain ⟨_, _, rfl, rfl, ⟨A1, c1, rfl, l1, g1⟩⟩ := h
  exact ⟨A1, c1, rfl, l1, g1⟩
theorem k64_openM {w : World} {base : Nat} {ok : Nat → Prop} {x : S64} {cs : List Value} (h : k64.M w base ok x cs) : ∃ v1, cs = [.int .i64 x.f0, v1] ∧ (Kd.int .i64).R 3 w base ok v1 x.f1 := by
  obtain ⟨_, _, rfl, rfl, ⟨v1, rfl, g1⟩⟩ := h
  exact ⟨v1, rfl, g1⟩
theorem k64_mk (w : World) (x : S64) {A1 : Option Addr} {c1 : Nat} (l1 : x.f1.length ≤ c1) (g1 : (Kd.int .i64).C w A1 x.f1.length x.f1) : k64.K w x [.int .i64 x.f0, .slice A1 x.f1.length c1] := ⟨[.int .i64 x.f0], [.slice A1 x.f1.length c1], rfl, rfl, ⟨A1, c1, rfl, l1, g1⟩⟩
theorem k64_mkM (w : World) (base : Nat) (ok : Nat → Prop) (x : S64) {v1 : Value} (g1 : (Kd.int .i64).R 3 w base ok v1 x.f1) : k64.M w base ok x [.int .i64 x.f0, v1] := ⟨[.int .i64 x.f0], [v1], rfl, rfl, ⟨v1, rfl, g1⟩⟩
def rd_T64 (xs : List S64) (i : Int) : S64 := xs.getD i.toNat z64
theorem at_T64 {w : World} {A : Option Addr} {n : Nat} {xs : List S64} (h : Kd.C k64 w A n xs) (i : Int) (h0 : 0 ≤ i) (h1 : i < n) : ∃ ad A1 c1, A = some ad ∧ w.cell? (ad.add (i.toNat * 2)) = some (.int .i64 (rd_T64 xs i).f0) ∧ w.cell? ⟨(ad.add (i.toNat * 2)).block, (ad.add (i.toNat * 2)).off + 1, none⟩ = some (.slice A1 (rd_T64 xs i).f1.length c1) ∧ (rd_T64 xs i).f1.length ≤ c1 ∧ (Kd.int .i64).C w A1 (rd_T64 xs i).f1.length (rd_T64 xs i).f1 := by
  obtain ⟨ad, c, e, _, hK, hc0⟩ := Kd.C_get h z64 i h0 h1
  have hc : ∀ j u, c[j]? = some u → w.cell? (ad.add (i.toNat * 2 + j)) = some u := hc0
  obtain ⟨A1, c1, rfl, l1, g1⟩ := k64_open hK
  exact ⟨ad, A1, c1, e, hc 0 _ rfl, by rw [← add_field _ _ 1 (by omega)]; exact hc 1 _ rfl, l1, g1⟩

/-! #### struct type 65 -/
structure S65 where
  f0 : Int
  f1 : (List Int)
def z65 : S65 := ⟨(0 : Int), ([] : List Int)⟩
def k65 : Kd S65 := Kd.iso (Kd.pair (Kd.int .i64) (Kd.slice 3 (Kd.int .i64))) (fun x : S65 => (x.f0, x.f1))
theorem k65_open {w : World} {x : S65} {cs : List Value} (h : k65.K w x cs) : ∃ A1 c1, cs = [.int .i64 x.f0, .slice A1 x.f1.length c1] ∧ x.f1.length ≤ c1 ∧ (Kd.int .i64).C w A1 x.f1.length x.f1 := by
  obtain ⟨_, _, rfl, rfl, ⟨A1, c1, rfl, l1, g1⟩⟩ := h
  exact ⟨A1, c1, rfl, l1, g1⟩
theorem k65_openM {w : World} {base : Nat} {ok : Nat → Prop} {x : S65} {cs : List Value} (h : k65.M w base ok x cs) : ∃ v1, cs = [.int .i64 x.f0, v1] ∧ (Kd.int .i64).R 3 w base ok v1 x.f1 := by
  obtain ⟨_, _, rfl, rfl, ⟨v1, rfl, g1⟩⟩ := h
  exact ⟨v1, rfl, g1⟩
theorem k65_mk (w : World) (x : S65) {A1 : Option Addr} {c1 : Nat} (l1 : x.f1.length ≤ c1) (g1 : (Kd.int .i64).C w A1 x.f1.length x.f1) : k65.K w x [.int .i64 x.f0, .slice A1 x.f1.length c1] := ⟨[.int .i64 x.f0], [.slice A1 x.f1.length c1], rfl, rfl, ⟨A1, c1, rfl, l1, g1⟩⟩
theorem k65_mkM (w : World) (base : Nat) (ok : Nat → Prop) (x : S65) {v1 : Value} (g1 : (Kd.int .i64).R 3 w base ok v1 x.f1) : k65.M w base ok x [.int .i64 x.f0, v1] := ⟨[.int .i64 x.f0], [v1], rfl, rfl, ⟨v1, rfl, g1⟩⟩
def rd_T65 (xs : List S65) (i : Int) : S65 := xs.getD i.toNat z65
theorem at_T65 {w : World} {A : Option Addr} {n : Nat} {xs : List S65} (h : Kd.C k65 w A n xs) (i : Int) (h0 : 0 ≤ i) (h1 : i < n) : ∃ ad A1 c1, A = some ad ∧ w.cell? (ad.add (i.toNat * 2)) = some (.int .i64 (rd_T65 xs i).f0) ∧ w.cell? ⟨(ad.add (i.toNat * 2)).block, (ad.add (i.toNat * 2)).off + 1, none⟩ = some (.slice A1 (rd_T65 xs i).f1.length c1) ∧ (rd_T65 xs i).f1.length ≤ c1 ∧ (Kd.int .i64).C w A1 (rd_T65 xs i).f1.length (rd_T65 xs i).f1 := by
  obtain ⟨ad, c, e, _, hK, hc0⟩ := Kd.C_get h z65 i h0 h1
  have hc : ∀ j u, c[j]? = some u → w.cell? (ad.add (i.toNat * 2 + j)) = some u := hc0
  obtain ⟨A1, c1, rfl, l1, g1⟩ := k65_open hK
  exact ⟨ad, A1, c1, e, hc 0 _ rfl, by rw [← add_field _ _ 1 (by omega)]; exact hc 1 _ rfl, l1, g1⟩

/-! #### struct type 67 -/
structure S67 where
  f0 : S38
  f1 : (List Int)
def z67 : S67 := ⟨z38, ([] : List Int)⟩
def k67 : Kd S67 := Kd.iso (Kd.pair k38 (Kd.slice 3 (Kd.int .i64))) (fun x : S67 => (x.f0, x.f1))
theorem k67_open {w : World} {x : S67} {cs : List Value} (h : k67.K w x cs) : ∃ A2 c2, cs = [.int .i64 x.f0.f0, .int .i64 x.f0.f1, .slice A2 x.f1.length c2] ∧ x.f1.length ≤ c2 ∧ (Kd.int .i64).C w A2 x.f1.length x.f1 := by
  obtain ⟨_, _, rfl, s0, ⟨A2, c2, rfl, l2, g2⟩⟩ := h
  obtain rfl := k38_open s0
  exact ⟨A2, c2, rfl, l2, g2⟩
theorem k67_openM {w : World} {base : Nat} {ok : Nat → Prop} {x : S67} {cs : List Value} (h : k67.M w base ok x cs) : ∃ v2, cs = [.int .i64 x.f0.f0, .int .i64 x.f0.f1, v2] ∧ (Kd.int .i64).R 3 w base ok v2 x.f1 := by
  obtain ⟨_, _, rfl, s0, ⟨v2, rfl, g2⟩⟩ := h
  obtain rfl := k38_openM s0
  exact ⟨v2, rfl, g2⟩
theorem k67_mk (w : World) (x : S67) {A2 : Option Addr} {c2 : Nat} (l2 : x.f1.length ≤ c2) (g2 : (Kd.int .i64).C w A2 x.f1.length x.f1) : k67.K w x [.int .i64 x.f0.f0, .int .i64 x.f0.f1, .slice A2 x.f1.length c2] := ⟨[.int .i64 x.f0.f0, .int .i64 x.f0.f1], [.slice A2 x.f1.length c2], rfl, (k38_mk w x.f0 ), ⟨A2, c2, rfl, l2, g2⟩⟩
theorem k67_mkM (w : World) (base : Nat) (ok : Nat → Prop) (x : S67) {v2 : Value} (g2 : (Kd.int .i64).R 3 w base ok v2 x.f1) : k67.M w base ok x [.int .i64 x.f0.f0, .int .i64 x.f0.f1, v2] := ⟨[.int .i64 x.f0.f0, .int .i64 x.f0.f1], [v2], rfl, (k38_mkM w base ok x.f0 ), ⟨v2, rfl, g2⟩⟩
def rd_T67 (xs : List S67) (i : Int) : S67 := xs.getD i.toNat z67
theorem at_T67 {w : World} {A : Option Addr} {n : Nat} {xs : List S67} (h : Kd.C k67 w A n xs) (i : Int) (h0 : 0 ≤ i) (h1 : i < n) : ∃ ad A2 c2, A = some ad ∧ w.cell? (ad.add (i.toNat * 3)) = some (.int .i64 (rd_T67 xs i).f0.f0) ∧ w.cell? ⟨(ad.add (i.toNat * 3)).block, (ad.add (i.toNat * 3)).off + 1, none⟩ = some (.int .i64 (rd_T67 xs i).f0.f1) ∧ w.cell? ⟨(ad.add (i.toNat * 3)).block, (ad.add (i.toNat * 3)).off + 2, none⟩ = some (.slice A2 (rd_T67 xs i).f1.length c2) ∧ (rd_T67 xs i).f1.length ≤ c2 ∧ (Kd.int .i64).C w A2 (rd_T67 xs i).f1.length (rd_T67 xs i).f1 := by
  obtain ⟨ad, c, e, _, hK, hc0⟩ := Kd.C_get h z67 i h0 h1
  have hc : ∀ j u, c[j]? = some u → w.cell? (ad.add (i.toNat * 3 + j)) = some u := hc0
  obtain ⟨A2, c2, rfl, l2, g2⟩ := k67_open hK
  exact ⟨ad, A2, c2, e, hc 0 _ rfl, by rw [← add_field _ _ 1 (by omega)]; exact hc 1 _ rfl, by rw [← add_field _ _ 2 (by omega)]; exact hc 2 _ rfl, l2, g2⟩

/-! #### struct type 68 -/
structure S68 where
  f0 : S38
  f1 : (List Int)
def z68 : S68 := ⟨z38, ([] : List Int)⟩
def k68 : Kd S68 := Kd.iso (Kd.pair k38 (Kd.slice 3 (Kd.int .i64))) (fun x : S68 => (x.f0, x.f1))
theorem k68_open {w : World} {x : S68} {cs : List Value} (h : k68.K w x cs) : ∃ A2 c2, cs = [.int .i64 x.f0.f0, .int .i64 x.f0.f1, .slice A2 x.f1.length c2] ∧ x.f1.length ≤ c2 ∧ (Kd.int .i64).C w A2 x.f1.length x.f1 := by
  obtain ⟨_, _, rfl, s0, ⟨A2, c2, rfl, l2, g2⟩⟩ := h
  obtain rfl := k38_open s0
  exact ⟨A2, c2, rfl, l2, g2⟩
theorem k68_openM {w : World} {base : Nat} {ok : Nat → Prop} {x : S68} {cs : List Value} (h : k68.M w base ok x cs) : ∃ v2, cs = [.int .i64 x.f0.f0, .int .i64 x.f0.f1, v2] ∧ (Kd.int .i64).R 3 w base ok v2 x.f1 := by
  obtain ⟨_, _, rfl, s0, ⟨v2, rfl, g2⟩⟩ := h
  obtain rfl := k38_openM s0
  exact ⟨v2, rfl, g2⟩
theorem k68_mk (w : World) (x : S68) {A2 : Option Addr} {c2 : Nat} (l2 : x.f1.length ≤ c2) (g2 : (Kd.int .i64).C w A2 x.f1.length x.f1) : k68.K w x [.int .i64 x.f0.f0, .int .i64 x.f0.f1, .slice A2 x.f1.length c2] := ⟨[.int .i64 x.f0.f0, .int .i64 x.f0.f1], [.slice A2 x.f1.length c2], rfl, (k38_mk w x.f0 ), ⟨A2, c2, rfl, l2, g2⟩⟩
theorem k68_mkM (w : World) (base : Nat) (ok : Nat → Prop) (x : S68) {v2 : Value} (g2 : (Kd.int .i64).R 3 w base ok v2 x.f1) : k68.M w base ok x [.int .i64 x.f0.f0, .int .i64 x.f0.f1, v2] := ⟨[.int .i64 x.f0.f0, .int .i64 x.f0.f1], [v2], rfl, (k38_mkM w base ok x.f0 ), ⟨v2, rfl, g2⟩⟩
def rd_T68 (xs : List S68) (i : Int) : S68 := xs.getD i.toNat z68
theorem at_T68 {w : World} {A : Option Addr} {n : Nat} {xs : List S68} (h : Kd.C k68 w A n xs) (i : Int) (h0 : 0 ≤ i) (h1 : i < n) : ∃ ad A2 c2, A = some ad ∧ w.cell? (ad.add (i.toNat * 3)) = some (.int .i64 (rd_T68 xs i).f0.f0) ∧ w.cell? ⟨(ad.add (i.toNat * 3)).block, (ad.add (i.toNat * 3)).off + 1, none⟩ = some (.int .i64 (rd_T68 xs i).f0.f1) ∧ w.cell? ⟨(ad.add (i.toNat * 3)).block, (ad.add (i.toNat * 3)).off + 2, none⟩ = some (.slice A2 (rd_T68 xs i).f1.length c2) ∧ (rd_T68 xs i).f1.length ≤ c2 ∧ (Kd.int .i64).C w A2 (rd_T68 xs i).f1.length (rd_T68 xs i).f1 := by
  obtain ⟨ad, c, e, _, hK, hc0⟩ := Kd.C_get h z68 i h0 h1
  have hc : ∀ j u, c[j]? = some u → w.cell? (ad.add (i.toNat * 3 + j)) = some u := hc0
  obtain ⟨A2, c2, rfl, l2, g2⟩ := k68_open hK
  exact ⟨ad, A2, c2, e, hc 0 _ rfl, by rw [← add_field _ _ 1 (by omega)]; exact hc 1 _ rfl, by rw [← add_field _ _ 2 (by omega)]; exact hc 2 _ rfl, l2, g2⟩

/-! #### struct type 79 -/
structure S79 where
  f0 : Int
  f1 : Int
  f2 : Int
def z79 : S79 := ⟨(0 : Int), (0 : Int), (0 : Int)⟩
def k79 : Kd S79 := Kd.iso (Kd.pair (Kd.int .i64) (Kd.pair (Kd.int .i64) (Kd.int .i64))) (fun x : S79 => (x.f0, x.f1, x.f2))
theorem k79_open {w : World} {x : S79} {cs : List Value} (h : k79.K w x cs) : cs = [.int .i64 x.f0, .int .i64 x.f1, .int .i64 x.f2] := by
  obtain ⟨_, _, rfl, rfl, ⟨_, _, rfl, rfl, rfl⟩⟩ := h
  exact rfl
theorem k79_openM {w : World} {base : Nat} {ok : Nat → Prop} {x : S79} {cs : List Value} (h : k79.M w base ok x cs) : cs = [.int .i64 x.f0, .int .i64 x.f1, .int .i64 x.f2] := by
  obtain ⟨_, _, rfl, rfl, ⟨_, _, rfl, rfl, rfl⟩⟩ := h
  exact rfl
theorem k79_mk (w : World) (x : S79)  : k79.K w x [.int .i64 x.f0, .int .i64 x.f1, .int .i64 x.f2] := ⟨[.int .i64 x.f0], [.int .i64 x.f1, .int .i64 x.f2], rfl, rfl, ⟨[.int .i64 x.f1], [.int .i64 x.f2], rfl, rfl, rfl⟩⟩
theorem k79_mkM (w : World) (base : Nat) (ok : Nat → Prop) (x : S79)  : k79.M w base ok x [.int .i64 x.f0, .int .i64 x.f1, .int .i64 x.f2] := ⟨[.int .i64 x.f0], [.int .i64 x.f1, .int .i64 x.f2], rfl, rfl, ⟨[.int .i64 x.f1], [.int .i64 x.f2], rfl, rfl, rfl⟩⟩
def rd_T79 (xs : List S79) (i : Int) : S79 := xs.getD i.toNat z79
theorem at_T79 {w : World} {A : Option Addr} {n : Nat} {xs : List S79} (h : Kd.C k79 w A n xs) (i : Int) (h0 : 0 ≤ i) (h1 : i < n) : ∃ ad , A = some ad ∧ w.cell? (ad.add (i.toNat * 3)) = some (.int .i64 (rd_T79 xs i).f0) ∧ w.cell? ⟨(ad.add (i.toNat * 3)).block, (ad.add (i.toNat * 3)).off + 1, none⟩ = some (.int .i64 (rd_T79 xs i).f1) ∧ w.cell? ⟨(ad.add (i.toNat * 3)).block, (ad.add (i.toNat * 3)).off + 2, none⟩ = some (.int .i64 (rd_T79 xs i).f2) := by
  obtain ⟨ad, c, e, _, hK, hc0⟩ := Kd.C_get h z79 i h0 h1
  have hc : ∀ j u, c[j]? = some u → w.cell? (ad.add (i.toNat * 3 + j)) = some u := hc0
  obtain rfl := k79_open hK
  exact ⟨ad, e, hc 0 _ rfl, by rw [← add_field _ _ 1 (by omega)]; exact hc 1 _ rfl, by rw [← add_field _ _ 2 (by omega)]; exact hc 2 _ rfl⟩

/-! #### struct type 80 -/
structure S80 where
  f0 : Int
  f1 : Int
  f2 : Int
def z80 : S80 := ⟨(0 : Int), (0 : Int), (0 : Int)⟩
def k80 : Kd S80 := Kd.iso (Kd.pair (Kd.int .i64) (Kd.pair (Kd.int .i64) (Kd.int .i64))) (fun x : S80 => (x.f0, x.f1, x.f2))
theorem k80_open {w : World} {x : S80} {cs : List Value} (h : k80.K w x cs) : cs = [.int .i64 x.f0, .int .i64 x.f1, .int .i64 x.f2] := by
  obtain ⟨_, _, rfl, rfl, ⟨_, _, rfl, rfl, rfl⟩⟩ := h
  exact rfl
theorem k80_openM {w : World} {base : Nat} {ok : Nat → Prop} {x : S80} {cs : List Value} (h : k80.M w base ok x cs) : cs = [.int .i64 x.f0, .int .i64 x.f1, .int .i64 x.f2] := by
  obtain ⟨_, _, rfl, rfl, ⟨_, _, rfl, rfl, rfl⟩⟩ := h
  exact rfl
theorem k80_mk (w : World) (x : S80)  : k80.K w x [.int .i64 x.f0, .int .i64 x.f1, .int .i64 x.f2] := ⟨[.int .i64 x.f0], [.int .i64 x.f1, .int .i64 x.f2], rfl, rfl, ⟨[.int .i64 x.f1], [.int .i64 x.f2], rfl, rfl, rfl⟩⟩
theorem k80_mkM (w : World) (base : Nat) (ok : Nat → Prop) (x : S80)  : k80.M w base ok x [.int .i64 x.f0, .int .i64 x.f1, .int .i64 x.f2] := ⟨[.int .i64 x.f0], [.int .i64 x.f1, .int .i64 x.f2], rfl, rfl, ⟨[.int .i64 x.f1], [.int .i64 x.f2], rfl, rfl, rfl⟩⟩
def rd_T80 (xs : List S80) (i : Int) : S80 := xs.getD i.toNat z80
theorem at_T80 {w : World} {A : Option Addr} {n : Nat} {xs : List S80} (h : Kd.C k80 w A n xs) (i : Int) (h0 : 0 ≤ i) (h1 : i < n) : ∃ ad , A = some ad ∧ w.cell? (ad.add (i.toNat * 3)) = some (.int .i64 (rd_T80 xs i).f0) ∧ w.cell? ⟨(ad.add (i.toNat * 3)).block, (ad.add (i.toNat * 3)).off + 1, none⟩ = some (.int .i64 (rd_T80 xs i).f1) ∧ w.cell? ⟨(ad.add (i.toNat * 3)).block, (ad.add (i.toNat * 3)).off + 2, none⟩ = some (.int .i64 (rd_T80 xs i).f2) := by
  obtain ⟨ad, c, e, _, hK, hc0⟩ := Kd.C_get h z80 i h0 h1
  have hc : ∀ j u, c[j]? = some u → w.cell? (ad.add (i.toNat * 3 + j)) = some u := hc0
  obtain rfl := k80_open hK
  exact ⟨ad, e, hc 0 _ rfl, by rw [← add_field _ _ 1 (by omega)]; exact hc 1 _ rfl, by rw [← add_field _ _ 2 (by omega)]; exact hc 2 _ rfl⟩

def rd_L22 (xs : List (List (List Int))) (i : Int) : (List (List Int)) := xs.getD i.toNat ([] : List (List Int))
theorem at_L22 {w : World} {A : Option Addr} {n : Nat} {xs : List (List (List Int))} (h : Kd.C (Kd.slice 22 (Kd.slice 3 (Kd.int .i64))) w A n xs) (i : Int) (h0 : 0 ≤ i) (h1 : i < n) : ∃ ad A0 c0, A = some ad ∧ w.cell? (ad.add i.toNat) = some (.slice A0 (rd_L22 xs i).length c0) ∧ (rd_L22 xs i).length ≤ c0 ∧ (Kd.slice 3 (Kd.int .i64)).C w A0 (rd_L22 xs i).length (rd_L22 xs i) := by
  obtain ⟨ad, c, e, _, hK, hc0⟩ := Kd.C_get h ([] : List (List Int)) i h0 h1
  have hc : ∀ j u, c[j]? = some u → w.cell? (ad.add (i.toNat * 1 + j)) = some u := hc0
  obtain ⟨A0, c0, rfl, l0, g0⟩ := hK
  exact ⟨ad, A0, c0, e, by have hq := hc 0 _ rfl; rwa [Nat.mul_one, Nat.add_zero] at hq, l0, g0⟩

/-! #### struct type 92 -/
structure S92 where
  f0 : (List Int)
  f1 : Int
def z92 : S92 := ⟨([] : List Int), (0 : Int)⟩
def k92 : Kd S92 := Kd.iso (Kd.pair (Kd.slice 3 (Kd.int .i64)) (Kd.int .i64)) (fun x : S92 => (x.f0, x.f1))
theorem k92_open {w : World} {x : S92} {cs : List Value} (h : k92.K w x cs) : ∃ A0 c0, cs = [.slice A0 x.f0.length c0, .int .i64 x.f1] ∧ x.f0.length ≤ c0 ∧ (Kd.int .i64).C w A0 x.f0.length x.f0 := by
  obtain ⟨_, _, rfl, ⟨A0, c0, rfl, l0, g0⟩, rfl⟩ := h
  exact ⟨A0, c0, rfl, l0, g0⟩
theorem k92_openM {w : World} {base : Nat} {ok : Nat → Prop} {x : S92} {cs : List Value} (h : k92.M w base ok x cs) : ∃ v0, cs = [v0, .int .i64 x.f1] ∧ (Kd.int .i64).R 3 w base ok v0 x.f0 := by
  obtain ⟨_, _, rfl, ⟨v0, rfl, g0⟩, rfl⟩ := h
  exact ⟨v0, rfl, g0⟩
theorem k92_mk (w : World) (x : S92) {A0 : Option Addr} {c0 : Nat} (l0 : x.f0.length ≤ c0) (g0 : (Kd.int .i64).C w A0 x.f0.length x.f0) : k92.K w x [.slice A0 x.f0.length c0, .int .i64 x.f1] := ⟨[.slice A0 x.f0.length c0], [.int .i64 x.f1], rfl, ⟨A0, c0, rfl, l0, g0⟩, rfl⟩
theorem k92_mkM (w : World) (base : Nat) (ok : Nat → Prop) (x : S92) {v0 : Value} (g0 : (Kd.int .i64).R 3 w base ok v0 x.f0) : k92.M w base ok x [v0, .int .i64 x.f1] := ⟨[v0], [.int .i64 x.f1], rfl, ⟨v0, rfl, g0⟩, rfl⟩
def rd_T92 (xs : List S92) (i : Int) : S92 := xs.getD i.toNat z92
theorem at_T92 {w : World} {A : Option Addr} {n : Nat} {xs : List S92} (h : Kd.C k92 w A n xs) (i : Int) (h0 : 0 ≤ i) (h1 : i < n) : ∃ ad A0 c0, A = some ad ∧ w.cell? (ad.add (i.toNat * 2)) = some (.slice A0 (rd_T92 xs i).f0.length c0) ∧ w.cell? ⟨(ad.add (i.toNat * 2)).block, (ad.add (i.toNat * 2)).off + 1, none⟩ = some (.int .i64 (rd_T92 xs i).f1) ∧ (rd_T92 xs i).f0.length ≤ c0 ∧ (Kd.int .i64).C w A0 (rd_T92 xs i).f0.length (rd_T92 xs i).f0 := by
  obtain ⟨ad, c, e, _, hK, hc0⟩ := Kd.C_get h z92 i h0 h1
  have hc : ∀ j u, c[j]? = some u → w.cell? (ad.add (i.toNat * 2 + j)) = some u := hc0
  obtain ⟨A0, c0, rfl, l0, g0⟩ := k92_open hK
  exact ⟨ad, A0, c0, e, hc 0 _ rfl, by rw [← add_field _ _ 1 (by omega)]; exact hc 1 _ rfl, l0, g0⟩

/-! #### struct type 93 -/
structure S93 where
  f0 : (List Int)
  f1 : Int
def z93 : S93 := ⟨([] : List Int), (0 : Int)⟩
def k93 : Kd S93 := Kd.iso (Kd.pair (Kd.slice 3 (Kd.int .i64)) (Kd.int .i64)) (fun x : S93 => (x.f0, x.f1))
theorem k93_open {w : World} {x : S93} {cs : List Value} (h : k93.K w x cs) : ∃ A0 c0, cs = [.slice A0 x.f0.length c0, .int .i64 x.f1] ∧ x.f0.length ≤ c0 ∧ (Kd.int .i64).C w A0 x.f0.length x.f0 := by
  obtain ⟨_, _, rfl, ⟨A0, c0, rfl, l0, g0⟩, rfl⟩ := h
  exact ⟨A0, c0, rfl, l0, g0⟩
theorem k93_openM {w : World} {base : Nat} {ok : Nat → Prop} {x : S93} {cs : List Value} (h : k93.M w base ok x cs) : ∃ v0, cs = [v0, .int .i64 x.f1] ∧ (Kd.int .i64).R 3 w base ok v0 x.f0 := by
  obtain ⟨_, _, rfl, ⟨v0, rfl, g0⟩, rfl⟩ := h
  exact ⟨v0, rfl, g0⟩
theorem k93_mk (w : World) (x : S93) {A0 : Option Addr} {c0 : Nat} (l0 : x.f0.length ≤ c0) (g0 : (Kd.int .i64).C w A0 x.f0.length x.f0) : k93.K w x [.slice A0 x.f0.length c0, .int .i64 x.f1] := ⟨[.slice A0 x.f0.length c0], [.int .i64 x.f1], rfl, ⟨A0, c0, rfl, l0, g0⟩, rfl⟩
theorem k93_mkM (w : World) (base : Nat) (ok : Nat → Prop) (x : S93) {v0 : Value} (g0 : (Kd.int .i64).R 3 w base ok v0 x.f0) : k93.M w base ok x [v0, .int .i64 x.f1] := ⟨[v0], [.int .i64 x.f1], rfl, ⟨v0, rfl, g0⟩, rfl⟩
def rd_T93 (xs : List S93) (i : Int) : S93 := xs.getD i.toNat z93
theorem at_T93 {w : World} {A : Option Addr} {n : Nat} {xs : List S93} (h : Kd.C k93 w A n xs) (i : Int) (h0 : 0 ≤ i) (h1 : i < n) : ∃ ad A0 c0, A = some ad ∧ w.cell? (ad.add (i.toNat * 2)) = some (.slice A0 (rd_T93 xs i).f0.length c0) ∧ w.cell? ⟨(ad.add (i.toNat * 2)).block, (ad.add (i.toNat * 2)).off + 1, none⟩ = some (.int .i64 (rd_T93 xs i).f1) ∧ (rd_T93 xs i).f0.length ≤ c0 ∧ (Kd.int .i64).C w A0 (rd_T93 xs i).f0.length (rd_T93 xs i).f0 := by
  obtain ⟨ad, c, e, _, hK, hc0⟩ := Kd.C_get h z93 i h0 h1
  have hc : ∀ j u, c[j]? = some u → w.cell? (ad.add (i.toNat * 2 + j)) = some u := hc0
  obtain ⟨A0, c0, rfl, l0, g0⟩ := k93_open hK
  exact ⟨ad, A0, c0, e, hc 0 _ rfl, by rw [← add_field _ _ 1 (by omega)]; exact hc 1 _ rfl, l0, g0⟩

def rd_L25 (xs : List (List Int)) (i : Int) : (List Int) := xs.getD i.toNat ([] : List Int)
theorem at_L25 {w : World} {A : Option Addr} {n : Nat} {xs : List (List Int)} (h : Kd.C (Kd.slice 5 (Kd.int .u8)) w A n xs) (i : Int) (h0 : 0 ≤ i) (h1 : i < n) : ∃ ad A0 c0, A = some ad ∧ w.cell? (ad.add i.toNat) = some (.slice A0 (rd_L25 xs i).length c0) ∧ (rd_L25 xs i).length ≤ c0 ∧ (Kd.int .u8).C w A0 (rd_L25 xs i).length (rd_L25 xs i) := by
  obtain ⟨ad, c, e, _, hK, hc0⟩ := Kd.C_get h ([] : List Int) i h0 h1
  have hc : ∀ j u, c[j]? = some u → w.cell? (ad.add (i.toNat * 1 + j)) = some u := hc0
  obtain ⟨A0, c0, rfl, l0, g0⟩ := hK
  exact ⟨ad, A0, c0, e, by have hq := hc 0 _ rfl; rwa [Nat.mul_one, Nat.add_zero] at hq, l0, g0⟩

/-! #### struct type 105 -/
structure S105 where
  f0 : Int
  f1 : Bool
def z105 : S105 := ⟨(0 : Int), false⟩
def k105 : Kd S105 := Kd.iso (Kd.pair (Kd.int .i64) Kd.bool) (fun x : S105 => (x.f0, x.f1))
theorem k105_open {w : World} {x : S105} {cs : List Value} (h : k105.K w x cs) : cs = [.int .i64 x.f0, .bool x.f1] := by
  obtain ⟨_, _, rfl, rfl, rfl⟩ := h
  exact rfl
theorem k105_openM {w : World} {base : Nat} {ok : Nat → Prop} {x : S105} {cs : List Value} (h : k105.M w base ok x cs) : cs = [.int .i64 x.f0, .bool x.f1] := by
  obtain ⟨_, _, rfl, rfl, rfl⟩ := h
  exact rfl
theorem k105_mk (w : World) (x : S105)  : k105.K w x [.int .i64 x.f0, .bool x.f1] := ⟨[.int .i64 x.f0], [.bool x.f1], rfl, rfl, rfl⟩
theorem k105_mkM (w : World) (base : Nat) (ok : Nat → Prop) (x : S105)  : k105.M w base ok x [.int .i64 x.f0, .bool x.f1] := ⟨[.int .i64 x.f0], [.bool x.f1], rfl, rfl, rfl⟩
def rd_T105 (xs : List S105) (i : Int) : S105 := xs.getD i.toNat z105
theorem at_T105 {w : World} {A : Option Addr} {n : Nat} {xs : List S105} (h : Kd.C k105 w A n xs) (i : Int) (h0 : 0 ≤ i) (h1 : i < n) : ∃ ad , A = some ad ∧ w.cell? (ad.add (i.toNat * 2)) = some (.int .i64 (rd_T105 xs i).f0) ∧ w.cell? ⟨(ad.add (i.toNat * 2)).block, (ad.add (i.toNat * 2)).off + 1, none⟩ = some (.bool (rd_T105 xs i).f1) := by
  obtain ⟨ad, c, e, _, hK, hc0⟩ := Kd.C_get h z105 i h0 h1
  have hc : ∀ j u, c[j]? = some u → w.cell? (ad.add (i.toNat * 2 + j)) = some u := hc0
  obtain rfl := k105_open hK
  exact ⟨ad, e, hc 0 _ rfl, by rw [← add_field _ _ 1 (by omega)]; exact hc 1 _ rfl⟩

/-! #### struct type 106 -/
structure S106 where
  f0 : Int
  f1 : Bool
def z106 : S106 := ⟨(0 : Int), false⟩
def k106 : Kd S106 := Kd.iso (Kd.pair (Kd.int .i64) Kd.bool) (fun x : S106 => (x.f0, x.f1))
theorem k106_open {w : World} {x : S106} {cs : List Value} (h : k106.K w x cs) : cs = [.int .i64 x.f0, .bool x.f1] := by
  obtain ⟨_, _, rfl, rfl, rfl⟩ := h
  exact rfl
theorem k106_openM {w : World} {base : Nat} {ok : Nat → Prop} {x : S106} {cs : List Value} (h : k106.M w base ok x cs) : cs = [.int .i64 x.f0, .bool x.f1] := by
  obtain ⟨_, _, rfl, rfl, rfl⟩ := h
  exact rfl
theorem k106_mk (w : World) (x : S106)  : k106.K w x [.int .i64 x.f0, .bool x.f1] := ⟨[.int .i64 x.f0], [.bool x.f1], rfl, rfl, rfl⟩
theorem k106_mkM (w : World) (base : Nat) (ok : Nat → Prop) (x : S106)  : k106.M w base ok x [.int .i64 x.f0, .bool x.f1] := ⟨[.int .i64 x.f0], [.bool x.f1], rfl, rfl, rfl⟩
def rd_T106 (xs : List S106) (i : Int) : S106 := xs.getD i.toNat z106
theorem at_T106 {w : World} {A : Option Addr} {n : Nat} {xs : List S106} (h : Kd.C k106 w A n xs) (i : Int) (h0 : 0 ≤ i) (h1 : i < n) : ∃ ad , A = some ad ∧ w.cell? (ad.add (i.toNat * 2)) = some (.int .i64 (rd_T106 xs i).f0) ∧ w.cell? ⟨(ad.add (i.toNat * 2)).block, (ad.add (i.toNat * 2)).off + 1, none⟩ = some (.bool (rd_T106 xs i).f1) := by
  obtain ⟨ad, c, e, _, hK, hc0⟩ := Kd.C_get h z106 i h0 h1
  have hc : ∀ j u, c[j]? = some u → w.cell? (ad.add (i.toNat * 2 + j)) = some u := hc0
  obtain rfl := k106_open hK
  exact ⟨ad, e, hc 0 _ rfl, by rw [← add_field _ _ 1 (by omega)]; exact hc 1 _ rfl⟩

/-! #### struct type 152 -/
structure S152 where
  f0 : Int
  f1 : Int
def z152 : S152 := ⟨(0 : Int), (0 : Int)⟩
def k152 : Kd S152 := Kd.iso (Kd.pair (Kd.int .u8) (Kd.int .u8)) (fun x : S152 => (x.f0, x.f1))
theorem k152_open {w : World} {x : S152} {cs : List Value} (h : k152.K w x cs) : cs = [.int .u8 x.f0, .int .u8 x.f1] := by
  obtain ⟨_, _, rfl, rfl, rfl⟩ := h
  exact rfl
theorem k152_openM {w : World} {base : Nat} {ok : Nat → Prop} {x : S152} {cs : List Value} (h : k152.M w base ok x cs) : cs = [.int .u8 x.f0, .int .u8 x.f1] := by
  obtain ⟨_, _, rfl, rfl, rfl⟩ := h
  exact rfl
theorem k152_mk (w : World) (x : S152)  : k152.K w x [.int .u8 x.f0, .int .u8 x.f1] := ⟨[.int .u8 x.f0], [.int .u8 x.f1], rfl, rfl, rfl⟩
theorem k152_mkM (w : World) (base : Nat) (ok : Nat → Prop) (x : S152)  : k152.M w base ok x [.int .u8 x.f0, .int .u8 x.f1] := ⟨[.int .u8 x.f0], [.int .u8 x.f1], rfl, rfl, rfl⟩
def rd_T152 (xs : List S152) (i : Int) : S152 := xs.getD i.toNat z152
theorem at_T152 {w : World} {A : Option Addr} {n : Nat} {xs : List S152} (h : Kd.C k152 w A n xs) (i : Int) (h0 : 0 ≤ i) (h1 : i < n) : ∃ ad , A = some ad ∧ w.cell? (ad.add (i.toNat * 2)) = some (.int .u8 (rd_T152 xs i).f0) ∧ w.cell? ⟨(ad.add (i.toNat * 2)).block, (ad.add (i.toNat * 2)).off + 1, none⟩ = some (.int .u8 (rd_T152 xs i).f1) := by
  obtain ⟨ad, c, e, _, hK, hc0⟩ := Kd.C_get h z152 i h0 h1
  have hc : ∀ j u, c[j]? = some u → w.cell? (ad.add (i.toNat * 2 + j)) = some u := hc0
  obtain rfl := k152_open hK
  exact ⟨ad, e, hc 0 _ rfl, by rw [← add_field _ _ 1 (by omega)]; exact hc 1 _ rfl⟩

/-! #### struct type 153 -/
structure S153 where
  f0 : Int
  f1 : Int
def z153 : S153 := ⟨(0 : Int), (0 : Int)⟩
def k153 : Kd S153 := Kd.iso (Kd.pair (Kd.int .u8) (Kd.int .u8)) (fun x : S153 => (x.f0, x.f1))
theorem k153_open {w : World} {x : S153} {cs : List Value} (h : k153.K w x cs) : cs = [.int .u8 x.f0, .int .u8 x.f1] := by
  obtain ⟨_, _, rfl, rfl, rfl⟩ := h
  exact rfl
theorem k153_openM {w : World} {base : Nat} {ok : Nat → Prop} {x : S153} {cs : List Value} (h : k153.M w base ok x cs) : cs = [.int .u8 x.f0, .int .u8 x.f1] := by
  obtain ⟨_, _, rfl, rfl, rfl⟩ := h
  exact rfl
theorem k153_mk (w : World) (x : S153)  : k153.K w x [.int .u8 x.f0, .int .u8 x.f1] := ⟨[.int .u8 x.f0], [.int .u8 x.f1], rfl, rfl, rfl⟩
theorem k153_mkM (w : World) (base : Nat) (ok : Nat → Prop) (x : S153)  : k153.M w base ok x [.int .u8 x.f0, .int .u8 x.f1] := ⟨[.int .u8 x.f0], [.int .u8 x.f1], rfl, rfl, rfl⟩
def rd_T153 (xs : List S153) (i : Int) : S153 := xs.getD i.toNat z153
theorem at_T153 {w : World} {A : Option Addr} {n : Nat} {xs : List S153} (h : Kd.C k153 w A n xs) (i : Int) (h0 : 0 ≤ i) (h1 : i < n) : ∃ ad , A = some ad ∧ w.cell? (ad.add (i.toNat * 2)) = some (.int .u8 (rd_T153 xs i).f0) ∧ w.cell? ⟨(ad.add (i.toNat * 2)).block, (ad.add (i.toNat * 2)).off + 1, none⟩ = some (.int .u8 (rd_T153 xs i).f1) := by
  obtain ⟨ad, c, e, _, hK, hc0⟩ := Kd.C_get h z153 i h0 h1
  have hc : ∀ j u, c[j]? = some u → w.cell? (ad.add (i.toNat * 2 + j)) = some u := hc0
  obtain rfl := k153_open hK
  exact ⟨ad, e, hc 0 _ rfl, by rw [← add_field _ _ 1 (by omega)]; exact hc 1 _ rfl⟩

end Go.Proofs.YtfpnojcbhbkfaaaDoor.P
namespace Go.Proofs.YtfpnojcbhbkfaaaDoor.P
open Go.RowKit Go.Proofs.YtfpnojcbhbkfaaaDoorW.PrintWords Go.Proofs.YtfpnojcbhbkfaaaDoorW.PrintLast Go.Proofs.YtfpnojcbhbkfaaaDoorW.PrintMore
attribute [local go_sem] max2_int min2_int max_two min_two max_three min_three max_four min_four   -- for this text's walks alone
set_option linter.unusedVariables false
set_option linter.unusedSimpArgs false

/-! New boxes: what they hold. -/
theorem new_cell (W : World) (v : Value) (t : TypeId) : (W.alloc (.cells #[v] t)).cell? ⟨W.heap.size, 0, none⟩ = some v ∧ (W.alloc (.cells #[v] t)).frozen? ⟨W.heap.size, 0, none⟩ = false := by
  have h := World.alloc_heap_new W (.cells #[v] t)
  refine ⟨?_, ?_⟩
  · have := cell_one_new W v t 0 v rfl
    simp [Addr.add] at this ⊢
  · unfold World.frozen?; simp only [h]; simp
theorem old_cell {W : World} {a : Addr} {v : Value} (o : Obj) (h : W.cell? a = some v) : (W.alloc o).cell? a = some v := cell_kept h (World.grownBy_alloc W o none) (fun r e => by cases e)
theorem old_frozen {W : World} {a : Addr} {v : Value} (o : Obj) (h : W.cell? a = some v) (hf : W.frozen? a = false) : (W.alloc o).frozen? a = false := (frozen_kept h (World.grownBy_alloc W o none) (fun r e => by cases e)).trans hf
/-- four new boxes -/
theorem four_new (w : World) (v0 v1 v2 v3 : Value) (t0 t1 t2 t3 : TypeId) (S : Nat) (hS : S = w.heap.size) (W0 : World) (h : (((w.alloc (.cells #[v0] t0)).alloc (.cells #[v1] t1)).alloc (.cells #[v2] t2)).alloc (.cells #[v3] t3) = W0) :
    W0.cell? ⟨S, 0, none⟩ = some v0 ∧ W0.cell? ⟨S + 1, 0, none⟩ = some v1 ∧ W0.cell? ⟨S + 1 + 1, 0, none⟩ = some v2 ∧ W0.cell? ⟨S + 1 + 1 + 1, 0, none⟩ = some v3 ∧ W0.frozen? ⟨S + 1 + 1, 0, none⟩ = false ∧ W0.frozen? ⟨S + 1 + 1 + 1, 0, none⟩ = false ∧ W0.heap.size = S + 4 ∧ Below S w W0 := by
  subst h hS
  have a0 := new_cell w v0 t0
  have a1 := new_cell (w.alloc (.cells #[v0] t0)) v1 t1
  have a2 := new_cell ((w.alloc (.cells #[v0] t0)).alloc (.cells #[v1] t1)) v2 t2
  have a3 := new_cell (((w.alloc (.cells #[v0] t0)).alloc (.cells #[v1] t1)).alloc (.cells #[v2] t2)) v3 t3
  simp only [World.size_alloc] at a1 a2 a3
  exact ⟨old_cell _ (old_cell _ (old_cell _ a0.1)), old_cell _ (old_cell _ a1.1), old_cell _ a2.1, a3.1, old_frozen _ a2.1 a2.2, a3.2, by simp [World.size_alloc], below_alloc (below_alloc (below_alloc (below_alloc (Below.refl _ _) _) _) _) _⟩

end Go.Proofs.YtfpnojcbhbkfaaaDoor.P
namespace Go.Proofs.YtfpnojcbhbkfaaaDoor.P
open Go.RowKit Go.Proofs.YtfpnojcbhbkfaaaDoorW.PrintWords Go.Proofs.YtfpnojcbhbkfaaaDoorW.PrintLast Go.Proofs.YtfpnojcbhbkfaaaDoorW.PrintMore
attribute [local go_sem] max2_int min2_int max_two min_two max_three min_three max_four min_four   -- for this text's walks alone
set_option linter.unusedVariables false
set_option linter.unusedSimpArgs false

/-! Rounds, wraps and bits, as the printed functions spell them. -/
theorem Ev.succ {α : Type} {g : Nat → Option α} {r : α} (h : Ev (fun k => g (k + 1)) r) : Ev g r := Ev.step (f := fun k => g (k + 1)) (fun _ => rfl) h
theorem Ev.some {α : Type} (r : α) : Ev (fun _ => Option.some r) r := Ev.now r
theorem Ev.ite {α : Type} {c : Prop} [Decidable c] {f g : Nat → Option α} {r : α} (h1 : c → Ev f r) (h2 : ¬ c → Ev g r) : Ev (fun k => if c then f k else g k) r := by
  by_cases hc : c
  · simp only [hc, if_true]; exact h1 hc
  · simp only [hc, if_false]; exact h2 hc
theorem Ev.bind_some {α β : Type} {o : Option α} {f : Nat → α → Option β} {a : α} {r : β} (h : o = Option.some a) (k : Ev (fun n => f n a) r) : Ev (fun n => o.bind (f n)) r := by
  subst h; exact k
/-- What two loops come to is the same. -/
theorem Ev.det {α : Type} {g : Nat → Option α} {r r' : α} (h : Ev g r) (h' : Ev g r') : r = r' := by
  obtain ⟨K, h⟩ := h
  obtain ⟨K', h'⟩ := h'
  have h1 := h (max K K') (Nat.le_max_left _ _)
  have h2 := h' (max K K') (Nat.le_max_right _ _)
  rw [h1] at h2
  exact Option.some.inj h2

theorem wrap_id {n : Int} (h0 : -9223372036854775808 ≤ n) (h1 : n < 9223372036854775808) : wrap64 n = n := by unfold wrap64; omega

theorem rd_nat (xs : List Int) (i : Nat) : rd xs (i : Int) = xs.getD i 0 := by unfold rd; rw [Int.toNat_natCast]
theorem rd_get {xs : List Int} {i : Nat} (h : i < xs.length) : rd xs (i : Int) = xs[i] := by
  rw [rd_nat, List.getD_eq_getElem?_getD, List.getElem?_eq_getElem h]; rfl
theorem rd_mem {xs : List Int} {i : Nat} (h : i < xs.length) : rd xs (i : Int) ∈ xs := by rw [rd_get h]; exact List.getElem_mem h

theorem i64_id {n : Int} (h0 : -9223372036854775808 ≤ n) (h1 : n < 9223372036854775808) : IntKind.i64.wrap n = n := by rw [IntKind.wrap_i64]; omega
theorem bits_i64 (a b : Nat) (ha : a < 2 ^ 63) (hb : b < 2 ^ 63) : Go.bits .and .i64 (a : Int) (b : Int) = ((a &&& b : Nat) : Int) ∧ Go.bits .or .i64 (a : Int) (b : Int) = ((a ||| b : Nat) : Int) := by
  refine bits_nat .i64 63 (by decide) (fun n h0 h1 => i64_id (by omega) ?_) a b ha hb
  have : (2 : Int) ^ 63 = 9223372036854775808 := by decide
  omega
theorem or_i64 {a b : Nat} (ha : a < 2 ^ 63) (hb : b < 2 ^ 63) : Go.bits .or .i64 (a : Int) (b : Int) = ((a ||| b : Nat) : Int) := (bits_i64 a b ha hb).2
theorem and_i64 {a b : Nat} (ha : a < 2 ^ 63) (hb : b < 2 ^ 63) : Go.bits .and .i64 (a : Int) (b : Int) = ((a &&& b : Nat) : Int) := (bits_i64 a b ha hb).1
theorem pow_cast (x : Nat) : ((2 ^ x : Nat) : Int) = (2 : Int) ^ x := by simp
theorem two_pow_lt63 {x : Nat} (h : x ≤ 62) : 2 ^ x < 2 ^ 63 := Nat.pow_lt_pow_right (by omega) (by omega)
theorem shl_i64 {a x : Nat} (hx : x ≤ 62) (h : a * 2 ^ x < 2 ^ 63) : shl .i64 (a : Int) (x : Int) = ((a * 2 ^ x : Nat) : Int) := by
  unfold shl
  rw [Int.toNat_natCast, show min x IntKind.i64.bits = x from Nat.min_eq_left (by show x ≤ 64; omega)]
  have e : ((a : Int) * 2 ^ x) = ((a * 2 ^ x : Nat) : Int) := by rw [Int.natCast_mul, pow_cast]
  rw [e]
  exact i64_id (by omega) (by have : (2 : Nat) ^ 63 = 9223372036854775808 := by decide
                              omega)
theorem shl1_i64 {x : Nat} (hx : x ≤ 62) : shl .i64 1 (x : Int) = ((2 ^ x : Nat) : Int) := by
  have h := shl_i64 (a := 1) hx (by have := two_pow_lt63 hx; omega)
  simpa using h
theorem shr_i64 (a x : Nat) (hx : x ≤ 64) : shr .i64 (a : Int) (x : Int) = ((a / 2 ^ x : Nat) : Int) := by
  unfold shr
  rw [Int.toNat_natCast, show min x IntKind.i64.bits = x from Nat.min_eq_left (by show x ≤ 64; omega)]
  simp
/-- 'a >> x & 1 == 1' -/
theorem bit_i64 {a x : Nat} (ha : a < 2 ^ 63) (hx : x ≤ 64) : Go.bits .and .i64 (shr .i64 (a : Int) (x : Int)) 1 = if a.testBit x then 1 else 0 := by
  rw [shr_i64 a x hx]
  have hlt : a / 2 ^ x < 2 ^ 63 := Nat.lt_of_le_of_lt (Nat.div_le_self _ _) ha
  have h := and_i64 (a := a / 2 ^ x) (b := 1) hlt (by decide)
  rw [show ((1 : Nat) : Int) = 1 from rfl] at h
  rw [h, Nat.and_one_is_mod, Nat.testBit_eq_decide_div_mod_eq]
  rcases Nat.mod_two_eq_zero_or_one (a / 2 ^ x) with h | h <;> simp [h]
theorem bit1_i64 {a x : Nat} (ha : a < 2 ^ 63) (hx : x ≤ 64) : (Go.bits .and .i64 (shr .i64 (a : Int) (x : Int)) 1 = 1) ↔ a.testBit x = true := by
  rw [bit_i64 ha hx]; split <;> simp_all
theorem mn_eq (a b : Int) : mn a b = min a b := by unfold mn; omega
theorem mx_eq (a b : Int) : mx a b = max a b := by unfold mx; omega

/-! One round of a loop over a list: what lies behind and what is to come. -/
theorem mid_lt {l pre xs : List Int} {x : Int} (hl : l = pre ++ x :: xs) : (pre.length : Int) < (l.length : Int) := by subst hl; simp; omega
theorem mid_rd {l pre xs : List Int} {x : Int} (hl : l = pre ++ x :: xs) : rd l (pre.length : Int) = x := by
  subst hl
  rw [rd_get (by simp)]
  simp
theorem mid_next {l pre xs : List Int} {x : Int} (hl : l = pre ++ x :: xs) (hb : l.length < 9223372036854775807) : wrap64 ((pre.length : Int) + 1) = ((pre ++ [x]).length : Int) := by
  subst hl
  rw [wrap_id (by omega) (by simp at hb; omega)]
  simp
theorem mid_end {l pre : List Int} (hl : l = pre ++ []) : ¬ (pre.length : Int) < (l.length : Int) := by subst hl; simp
theorem mid_mv {l pre xs : List Int} {x : Int} (hl : l = pre ++ x :: xs) : l = (pre ++ [x]) ++ xs := by subst hl; simp
/-- 'mod' of the program and of the references: the rest from 0 on. -/
theorem tmod_mod {a n : Int} (hn : 0 < n) (hb : n < 4611686018427387904) : Int.tmod (wrap64 (Int.tmod a n + n)) n = a % n := by
  have h1 : Int.tmod a n < n := Int.tmod_lt_of_pos a hn
  have h2 : -n < Int.tmod a n := by
    have h := Int.tmod_lt_of_pos (-a) hn
    rw [Int.neg_tmod] at h
    omega
  rw [wrap_id (by omega) (by omega), Int.tmod_eq_emod_of_nonneg (by omega), Int.add_emod_right]
  have h3 : Int.tmod a n = a - n * Int.tdiv a n := by have := Int.mul_tdiv_add_tmod a n; omega
  rw [h3, Int.sub_mul_emod_self_left]

end Go.Proofs.YtfpnojcbhbkfaaaDoor.P
namespace Go.Proofs.YtfpnojcbhbkfaaaDoor.P
open Go.RowKit Go.Proofs.YtfpnojcbhbkfaaaDoorW.PrintWords Go.Proofs.YtfpnojcbhbkfaaaDoorW.PrintLast Go.Proofs.YtfpnojcbhbkfaaaDoorW.PrintMore
attribute [local go_sem] max2_int min2_int max_two min_two max_three min_three max_four min_four   -- for this text's walks alone
set_option linter.unusedVariables false
set_option linter.unusedSimpArgs false

/-! slices.IndexFunc and ContainsFunc at ints, whatever the predicate -/
def idxP (p : Int → Bool) (l : List Int) : Int := if l.any p then (l.findIdx p : Int) else -1
/-- Called with a number in any later world, the function value answers as p does; it only draws. -/
def GivesBool (g : Nat) (lb : Array Value) (p : Int → Bool) (w : World) : Prop :=
  ∀ (W : World) (x : Int), Below w.heap.size w W → Calls Tryd.prog g (#[.int .i64 x] ++ lb) W fun e w' => e = .returned (.bool (p x)) ∧ Drawn0 W w'
set_option maxHeartbeats 2000000 in
set_option maxRecDepth 100000 in
theorem IndexFunc_calls (p : Int → Bool) (g : Nat) (lb : Array Value) (eg : ∀ args w, (callFunc g args).run Tryd.prog w = .ok (.enter g args) w) (A0 : Option Addr) (c0 : Nat) (l0 : List Int) (w : World)
    (hr0 : Kd.C (Kd.int .i64) w A0 l0.length l0) (hp : GivesBool g lb p w) (hm : l0.length ≤ 9223372036854775807) :
    Calls Tryd.prog 117 #[.slice A0 l0.length c0, .func (.func g) #[] lb] w fun e w' => e = .returned (.int .i64 (idxP p l0)) ∧ Drawn0 w w' := by
  have HR := Aside0.mk hr0
  have hpAt : ∀ (x : Int) (q : Nat), Calls Tryd.prog g (#[.int .i64 x] ++ lb) (w.drewN q) fun e w' => e = .returned (.bool (p x)) ∧ Drawn0 (w.drewN q) w' := fun x q => hp _ x (pw_below_drewN (Below.refl _ w) q)
  have HP := Aside0.mk hpAt
  clear hp hpAt hr0
  go_enter Tryd.func117, Tryd.ntmps117
  go_wp2
  go_loopg [8] l0.length (fun gg s8 wr => ∃ (kk q : Nat), s8 = .int .i64 kk ∧ wr = w.drewN q ∧ Aside0 (kk + gg = l0.length) ∧ Aside0 ((l0.take kk).any p = false))
  case atStart => exact ⟨0, 0, rfl, rfl, ⟨by omega⟩, ⟨by simp⟩⟩
  case round =>
    obtain ⟨kk, q, rfl, rfl, HK, HA⟩ := hrel
    by_cases hlt : kk < l0.length
    · have hltz : (kk : Int) < (l0.length : Int) := by omega
      obtain ⟨ad, ead, hcell0⟩ := Kd.at_int HR.out (kk : Int) (by omega) hltz
      rw [rd_get hlt] at hcell0
      rw [Int.toNat_natCast] at hcell0
      cases ead
      generalize hy : l0[kk] = y at hcell0
      have Hy := Aside0.mk hy
      clear hy
      have hcall := HP.out y
      have hsplit : l0 = l0.take kk ++ y :: l0.drop (kk + 1) := by
        rw [← Hy.out]
        conv => lhs; rw [← List.take_append_drop kk l0]
        rw [List.drop_eq_getElem_cons hlt]
      have HS := Aside0.mk hsplit
      clear hsplit
      cases hq : p y with
      | true =>
        have Hq := Aside0.mk hq
        rw [hq] at hcall
        clear hq
        go_wp2_with (refine (hcall _).mono ?_; rintro e w' ⟨rfl, ⟨q', rfl⟩⟩)
        go_ret
        have h1 : l0.any p = true := by rw [HS.out]; simp [Hq.out]
        have h2 : l0.findIdx p = kk := by
          rw [HS.out, List.findIdx_append]
          have h3 : (l0.take kk).findIdx p = (l0.take kk).length := List.findIdx_eq_length.2 (fun x hx => by
            have := HA.out; rw [List.any_eq_false] at this; simpa using this x hx)
          have h4 : (l0.take kk).length = kk := by rw [List.length_take]; omega
          rw [h3, if_neg (by omega), List.findIdx_cons, Hq.out, h4]
          simp
        refine ⟨?_, ⟨_, rfl⟩⟩
        unfold idxP
        rw [h1, if_pos rfl, h2]; rfl
      | false =>
        have Hq := Aside0.mk hq
        rw [hq] at hcall
        clear hq
        go_wp2_with (refine (hcall _).mono ?_; rintro e w' ⟨rfl, ⟨q', rfl⟩⟩)
        go_roundg (gk - 1)
        case measure => have := HK.out; omega
        case rel =>
          refine ⟨kk + 1, _, by go_num, rfl, ⟨by have := HK.out; omega⟩, ⟨?_⟩⟩
          rw [List.take_succ_eq_append_getElem hlt, List.any_append, HA.out, Hy.out]
          simp [Hq.out]
    · have hltz : ¬ (kk : Int) < (l0.length : Int) := by omega
      have h0 : l0.any p = false := by
        have h := HA.out
        rwa [List.take_of_length_le (by omega)] at h
      have H0 := Aside0.mk h0
      clear h0
      go_wp2
      go_ret
      refine ⟨?_, ⟨_, rfl⟩⟩
      unfold idxP
      rw [H0.out, if_neg (by simp)]; rfl
set_option maxHeartbeats 1000000 in
theorem ContainsFunc_calls (p : Int → Bool) (g : Nat) (lb : Array Value) (eg : ∀ args w, (callFunc g args).run Tryd.prog w = .ok (.enter g args) w) (A0 : Option Addr) (c0 : Nat) (l0 : List Int) (w : World)
    (hr0 : Kd.C (Kd.int .i64) w A0 l0.length l0) (hp : GivesBool g lb p w) (hm : l0.length ≤ 9223372036854775807) :
    Calls Tryd.prog 82 #[.slice A0 l0.length c0, .func (.func g) #[] lb] w fun e w' => e = .returned (.bool (l0.any p)) ∧ Drawn0 w w' := by
  have HC := Aside0.mk (IndexFunc_calls p g lb eg A0 c0 l0 w hr0 hp hm)
  clear hp hr0
  go_enter Tryd.func82, Tryd.ntmps82
  cases hq : l0.any p with
  | true =>
    have Hq := Aside0.mk hq
    have hc := HC.out
    rw [show idxP p l0 = ((l0.findIdx p : Nat) : Int) by unfold idxP; rw [hq, if_pos rfl]] at hc
    have hpos : (0 : Int) ≤ ((l0.findIdx p : Nat) : Int) := by omega
    clear hq
    go_wp2_with (go_at_call 117; refine hc.mono ?_; rintro e w' ⟨rfl, ⟨q', rfl⟩⟩)
    go_ret
    exact ⟨by simp, ⟨_, rfl⟩⟩
  | false =>
    have Hq := Aside0.mk hq
    have hc := HC.out
    rw [show idxP p l0 = -1 by unfold idxP; rw [hq, if_neg (by simp)]] at hc
    clear hq
    go_wp2_with (go_at_call 117; refine hc.mono ?_; rintro e w' ⟨rfl, ⟨q', rfl⟩⟩)
    go_ret
    exact ⟨by simp, ⟨_, rfl⟩⟩

end Go.Proofs.YtfpnojcbhbkfaaaDoor.P
namespace Go.Proofs.YtfpnojcbhbkfaaaDoor.P
/-! Counting bits, as math/bits does it, for numbers of three bytes. Plain Lean. -/
def pop1 (x : Nat) : Nat := (x / 2 &&& 6148914691236517205) + (x &&& 6148914691236517205)
def pop2 (x : Nat) : Nat := (x / 4 &&& 3689348814741910323) + (x &&& 3689348814741910323)
def pop3 (x : Nat) : Nat := (x / 16 + x) &&& 1085102592571150095
def pop4 (x : Nat) : Nat := x + x / 256
def pop5 (x : Nat) : Nat := x + x / 65536
def pop6 (x : Nat) : Nat := x + x / 4294967296
def pop64 (x : Nat) : Nat := pop6 (pop5 (pop4 (pop3 (pop2 (pop1 x))))) &&& 127
/-- how many of the numbers below n are in the set -/
def cntBits (n a : Nat) : Nat := (List.range n).countP a.testBit

theorem lane_and {q b M m : Nat} (hb : b < 256) (hm : m < 256) : (256 * q + b) &&& (256 * M + m) = 256 * (q &&& M) + (b &&& m) := by
  refine Nat.eq_of_testBit_eq fun i => ?_
  have hbm : b &&& m < 256 := Nat.lt_of_le_of_lt Nat.and_le_left hb
  rw [Nat.testBit_and]
  rw [show (256 : Nat) = 2 ^ 8 from rfl] at *
  rw [Nat.testBit_two_pow_mul_add _ hb, Nat.testBit_two_pow_mul_add _ hm, Nat.testBit_two_pow_mul_add _ hbm]
  split <;> rw [Nat.testBit_and]
theorem d1 : ∀ t, t < 2 → ∀ b, b < 256 → (128 * t + b / 2) &&& 85 = (b / 2) &&& 85 := by decide +kernel
theorem d2 : ∀ t, t < 4 → ∀ b, b < 256 → (64 * t + b / 4) &&& 51 = (b / 4) &&& 51 := by decide +kernel
def b1 (b : Nat) : Nat := (b / 2 &&& 85) + (b &&& 85)
def b2 (b : Nat) : Nat := (b / 4 &&& 51) + (b &&& 51)
theorem b1_lt : ∀ b, b < 256 → b1 b < 256 := by decide +kernel
theorem b12 : ∀ b, b < 256 → b2 (b1 b) % 16 ≤ 4 ∧ b2 (b1 b) / 16 ≤ 4 ∧ b2 (b1 b) % 16 + b2 (b1 b) / 16 = cntBits 8 b := by decide +kernel
theorem step1 {q b M : Nat} (hb : b < 256) : ((256 * q + b) / 2 &&& (256 * M + 85)) + ((256 * q + b) &&& (256 * M + 85)) = 256 * ((q / 2 &&& M) + (q &&& M)) + b1 b := by
  have e : (256 * q + b) / 2 = 256 * (q / 2) + (128 * (q % 2) + b / 2) := by omega
  rw [e, lane_and (by omega) (by omega), lane_and hb (by omega), d1 _ (by omega) _ hb]
  unfold b1; omega
theorem step2 {q b M : Nat} (hb : b < 256) : ((256 * q + b) / 4 &&& (256 * M + 51)) + ((256 * q + b) &&& (256 * M + 51)) = 256 * ((q / 4 &&& M) + (q &&& M)) + b2 b := by
  have e : (256 * q + b) / 4 = 256 * (q / 4) + (64 * (q % 4) + b / 4) := by omega
  rw [e, lane_and (by omega) (by omega), lane_and hb (by omega), d2 _ (by omega) _ hb]
  unfold b2; omega
theorem low1 {b M : Nat} (hb : b < 256) : (b / 2 &&& (256 * M + 85)) + (b &&& (256 * M + 85)) = b1 b := by
  have := step1 (q := 0) (M := M) hb
  simpa using this
theorem low2 {b M : Nat} (hb : b < 256) : (b / 4 &&& (256 * M + 51)) + (b &&& (256 * M + 51)) = b2 b := by
  have := step2 (q := 0) (M := M) hb
  simpa using this
theorem pop1_three {x y z : Nat} (hx : x < 256) (hy : y < 256) (hz : z < 256) : pop1 (256 * (256 * z + y) + x) = 256 * (256 * b1 z + b1 y) + b1 x := by
  unfold pop1
  have h1 := step1 (q := 256 * z + y) (M := 24019198012642645) hx
  have h2 := step1 (q := z) (M := 93824992236885) hy
  have h3 := low1 (M := 366503875925) hz
  simp only [Nat.reduceMul, Nat.reduceAdd] at h1 h2 h3
  rw [h1, h2, h3]
theorem pop2_three {x y z : Nat} (hx : x < 256) (hy : y < 256) (hz : z < 256) : pop2 (256 * (256 * z + y) + x) = 256 * (256 * b2 z + b2 y) + b2 x := by
  unfold pop2
  have h1 := step2 (q := 256 * z + y) (M := 14411518807585587) hx
  have h2 := step2 (q := z) (M := 56294995342131) hy
  have h3 := low2 (M := 219902325555) hz
  simp only [Nat.reduceMul, Nat.reduceAdd] at h1 h2 h3
  rw [h1, h2, h3]
theorem and15 (x : Nat) : x &&& 15 = x % 16 := by
  have := Nat.and_two_pow_sub_one_eq_mod x 4
  simpa using this
theorem pop3_three {x y z : Nat} (hx : x % 16 ≤ 4 ∧ x / 16 ≤ 4) (hy : y % 16 ≤ 4 ∧ y / 16 ≤ 4) (hz : z % 16 ≤ 4 ∧ z / 16 ≤ 4) :
    pop3 (256 * (256 * z + y) + x) = 256 * (256 * (z % 16 + z / 16) + (y % 16 + y / 16)) + (x % 16 + x / 16) := by
  unfold pop3
  have e : (256 * (256 * z + y) + x) / 16 + (256 * (256 * z + y) + x) = 256 * (256 * (z + z / 16) + (y + y / 16 + 16 * (z % 16))) + (x + x / 16 + 16 * (y % 16)) := by omega
  have m : (1085102592571150095 : Nat) = 256 * (256 * (256 * 64677154575 + 15) + 15) + 15 := by decide
  rw [e, m, lane_and (by omega) (by omega), lane_and (by omega) (by omega)]
  have m2 : z + z / 16 &&& (256 * 64677154575 + 15) = (z % 16 + z / 16) := by
    have := lane_and (q := 0) (b := z + z / 16) (M := 64677154575) (m := 15) (by omega) (by omega)
    simp only [Nat.mul_zero, Nat.zero_add, Nat.zero_and] at this
    rw [this, and15]; omega
  rw [m2, and15, and15]
  clear e m m2
  have h1 : (x + x / 16 + 16 * (y % 16)) % 16 = x % 16 + x / 16 := by omega
  have h2 : (y + y / 16 + 16 * (z % 16)) % 16 = y % 16 + y / 16 := by omega
  rw [h1, h2]
theorem pop64_three {x y z : Nat} (hx : x < 256) (hy : y < 256) (hz : z < 256) : pop64 (256 * (256 * z + y) + x) = cntBits 8 x + cntBits 8 y + cntBits 8 z := by
  unfold pop64
  have a := b12 x hx; have b := b12 y hy; have c := b12 z hz
  rw [pop1_three hx hy hz, pop2_three (b1_lt x hx) (b1_lt y hy) (b1_lt z hz), pop3_three ⟨a.1, a.2.1⟩ ⟨b.1, b.2.1⟩ ⟨c.1, c.2.1⟩, a.2.2, b.2.2, c.2.2]
  have a8 : cntBits 8 x ≤ 8 := by have := a.2.2; omega
  have b8 : cntBits 8 y ≤ 8 := by have := b.2.2; omega
  have c8 : cntBits 8 z ≤ 8 := by have := c.2.2; omega
  have m : ∀ t : Nat, t &&& 127 = t % 128 := fun t => by
    have := Nat.and_two_pow_sub_one_eq_mod t 7
    simpa using this
  rw [m]
  unfold pop6 pop5 pop4
  generalize cntBits 8 x = p at *
  generalize cntBits 8 y = q at *
  generalize cntBits 8 z = r at *
  clear a b c m hx hy hz
  have e1 : (256 * (256 * r + q) + p) / 256 = 256 * r + q := by omega
  have e2 : (256 * (256 * r + q) + p + (256 * r + q)) / 65536 = r := by omega
  have e3 : (256 * (256 * r + q) + p + (256 * r + q) + r) / 4294967296 = 0 := by omega
  rw [e1, e2, e3]
  omega
theorem cntBits_lane (n b q : Nat) (hb : b < 256) : cntBits (8 + n) (256 * q + b) = cntBits 8 b + cntBits n q := by
  unfold cntBits
  rw [List.range_add, List.countP_append, List.countP_map]
  have e1 : (List.range 8).countP (256 * q + b).testBit = (List.range 8).countP b.testBit := List.countP_congr (fun i hi => by
    rw [show (256 : Nat) = 2 ^ 8 from rfl] at *
    rw [Nat.testBit_two_pow_mul_add _ hb, if_pos (List.mem_range.1 hi)])
  have e2 : (List.range n).countP ((256 * q + b).testBit ∘ fun x => 8 + x) = (List.range n).countP q.testBit := List.countP_congr (fun i _ => by
    rw [show (256 : Nat) = 2 ^ 8 from rfl] at *
    show (2 ^ 8 * q + b).testBit (8 + i) = true ↔ _
    rw [Nat.testBit_two_pow_mul_add _ hb, if_neg (by omega), show 8 + i - 8 = i by omega])
  rw [e1, e2]
theorem cntBits_more {n m a : Nat} (h : a < 2 ^ n) (hm : n ≤ m) : cntBits m a = cntBits n a := by
  obtain ⟨d, rfl⟩ : ∃ d, m = n + d := ⟨m - n, by omega⟩
  unfold cntBits
  rw [List.range_add, List.countP_append, List.countP_map]
  have : (List.range d).countP (a.testBit ∘ fun x => n + x) = 0 := by
    rw [List.countP_eq_zero]
    intro i _
    have : a < 2 ^ (n + i) := Nat.lt_of_lt_of_le h (Nat.pow_le_pow_right (by omega) (by omega))
    simp [Nat.testBit_lt_two_pow this]
  omega
/-- for a set of at most 24 numbers math/bits counts its elements -/
theorem pop64_cnt {n a : Nat} (hn : n ≤ 24) (h : a < 2 ^ n) : pop64 a = cntBits n a := by
  have h24 : a < 2 ^ 24 := Nat.lt_of_lt_of_le h (Nat.pow_le_pow_right (by omega) hn)
  rw [← cntBits_more h hn]
  have e : a = 256 * (256 * (a / 65536) + a / 256 % 256) + a % 256 := by omega
  have h3 : a / 65536 < 256 := by have : (2 : Nat) ^ 24 = 16777216 := by decide
                                  omega
  rw [e, pop64_three (by omega) (by omega) h3, show 24 = 8 + (8 + 8) from rfl, cntBits_lane _ _ _ (by omega), cntBits_lane _ _ _ (by omega)]
  omega
end Go.Proofs.YtfpnojcbhbkfaaaDoor.P
namespace Go.Proofs.YtfpnojcbhbkfaaaDoor.P
open Go.RowKit Go.Proofs.YtfpnojcbhbkfaaaDoorW.PrintWords Go.Proofs.YtfpnojcbhbkfaaaDoorW.PrintLast Go.Proofs.YtfpnojcbhbkfaaaDoorW.PrintMore
attribute [local go_sem] max2_int min2_int max_two min_two max_three min_three max_four min_four   -- for this text's walks alone
set_option linter.unusedVariables false
set_option linter.unusedSimpArgs false

def badBeat (n : Int) (c : Int) : Bool := decide (c < 0) || (decide (c ≥ shl .i64 1 n) || decide (Go.bits .and .i64 c 1 = 0))
def canon_circle_valid.f (a0 : Int) (l1 : List Int) : Option Bool := if a0 ≥ 2 then (if a0 ≤ 24 then (if l1.length < 17592186044416 then some (!(l1.any (badBeat a0))) else none) else some false) else some false
set_option maxHeartbeats 1000000 in
theorem canon_valid1 (n x : Int) (B : Nat) (W : World) (h2 : 2 ≤ n) (h24 : n ≤ 24) (hc : W.cell? ⟨B, 0, none⟩ = some (.int .i64 n)) :
    Calls Tryd.prog 87 #[.int .i64 x, .pointer (some ⟨B, 0, none⟩)] W fun e w' => e = .returned (.bool (badBeat n x)) ∧ Drawn0 W w' := by
  obtain ⟨j, hj⟩ : ∃ j : Int, shl .i64 1 n = j := ⟨_, rfl⟩
  have e1 : IntKind.i64.wrap (2 ^ n.toNat) = j := by rw [← hj]; unfold shl; rw [Nat.min_eq_left (by show n.toNat ≤ 64; omega), Int.one_mul]
  have e2 : wrap64 (2 ^ n.toNat) = j := by rw [← e1]; exact (i64_w _).symm
  have e3 : IntKind.i64.wrap (1 * 2 ^ n.toNat) = j := by rw [Int.one_mul]; exact e1
  have n0 : (0 : Int) ≤ n := by omega
  have n64 : n ≤ 64 := by omega
  have hn : n.toNat ≤ 64 := by omega
  by_cases c1 : x < 0
  · have c1b : decide (x < 0) = true := decide_eq_true c1
    have hf : badBeat n x = true := by unfold badBeat; rw [c1b]; rfl
    have HF := Aside0.mk hf
    clear hf hj
    go_enter Tryd.func87, Tryd.ntmps87
    go_wp2
    go_ret
    exact ⟨by rw [HF.out]; rfl, Drawn0.refl _⟩
  · have c1b : decide (x < 0) = false := decide_eq_false c1
    by_cases c2 : x ≥ j
    · have c2b : decide (x ≥ j) = true := decide_eq_true c2
      have hf : badBeat n x = true := by unfold badBeat; rw [c1b, hj, c2b]; rfl
      have HF := Aside0.mk hf
      clear hf hj
      go_enter Tryd.func87, Tryd.ntmps87
      go_wp2
      go_ret
      exact ⟨by rw [HF.out]; rfl, Drawn0.refl _⟩
    · have c2b : decide (x ≥ j) = false := decide_eq_false c2
      have hf : badBeat n x = decide (Go.bits .and .i64 x 1 = 0) := by unfold badBeat; rw [c1b, hj, c2b]; rfl
      have HF := Aside0.mk hf
      clear hf hj
      go_enter Tryd.func87, Tryd.ntmps87
      go_wp2
      go_ret
      exact ⟨by rw [HF.out]; rfl, Drawn0.refl _⟩
set_option maxHeartbeats 2000000 in
theorem canon_circle_valid.calls (a0 : Int) (A1 : Option Addr) (c1 : Nat) (l1 : List Int) (r : Bool) (w : World) (hr1 : Kd.C (Kd.int .i64) w A1 l1.length l1) (hc1 : l1.length ≤ c1) (h : canon_circle_valid.f a0 l1 = some r) :
    Calls Tryd.prog 56 #[.int .i64 a0, .slice A1 l1.length c1] w fun e w' => e = .returned (.bool r) ∧ Below w.heap.size w w' := by
  have HR := Aside0.mk hr1
  clear hr1
  unfold canon_circle_valid.f at h
  by_cases h2 : a0 ≥ 2
  · rw [if_pos h2] at h
    by_cases h24 : a0 ≤ 24
    · rw [if_pos h24] at h
      have hl : l1.length < 17592186044416 := by
        rcases Nat.lt_or_ge l1.length 17592186044416 with hl | hl
        · exact hl
        · rw [if_neg (by omega)] at h; cases h
      rw [if_pos hl] at h
      have hf := Option.some.inj h
      clear h
      have d2 : decide (a0 ≥ 2) = true := decide_eq_true h2
      have d2' : decide (2 ≤ a0) = true := decide_eq_true h2
      have d24 : decide (a0 ≤ 24) = true := decide_eq_true h24
      have HP : GivesBool 87 #[.pointer (some ⟨w.heap.size, 0, none⟩)] (badBeat a0) (w.alloc (.cells #[.int .i64 a0] 77)) := fun W x hb => by
        have hc : W.cell? ⟨w.heap.size, 0, none⟩ = some (.int .i64 a0) := (hb.cell (p := ⟨w.heap.size, 0, none⟩) (by simp)).trans (by simp)
        exact canon_valid1 a0 x w.heap.size W (by omega) h24 hc
      have eg : ∀ args w, (callFunc 87 args).run Tryd.prog w = .ok (.enter 87 args) w := enters_of Tryd.func87 (by kernel_rfl) rfl
      have HC := ContainsFunc_calls (badBeat a0) 87 #[.pointer (some ⟨w.heap.size, 0, none⟩)] eg A1 c1 l1 (w.alloc (.cells #[.int .i64 a0] 77)) (Kd.C_alloc HR.out _) HP (by omega)
      have HCa := Aside0.mk HC
      clear HC HP hl
      cases hq : l1.any (badBeat a0) with
      | true =>
        rw [hq] at hf
        have HCb := HCa.out
        rw [hq] at HCb
        clear hq HCa
        subst hf
        go_enter Tryd.func56, Tryd.ntmps56
        go_wp2_with (go_at_call 82; refine HCb.mono ?_; rintro e w' ⟨rfl, ⟨q', rfl⟩⟩)
        go_ret
        exact ⟨by simp, pw_below_drewN (below_alloc (Below.refl _ _) _) _⟩
      | false =>
        rw [hq] at hf
        have HCb := HCa.out
        rw [hq] at HCb
        clear hq HCa
        subst hf
        go_enter Tryd.func56, Tryd.ntmps56
        go_wp2_with (go_at_call 82; refine HCb.mono ?_; rintro e w' ⟨rfl, ⟨q', rfl⟩⟩)
        go_ret
        exact ⟨by simp, pw_below_drewN (below_alloc (Below.refl _ _) _) _⟩
    · rw [if_neg h24] at h
      have hf := Option.some.inj h
      subst hf
      have d2' : decide (2 ≤ a0) = true := decide_eq_true h2
      have d24 : decide (a0 ≤ 24) = false := decide_eq_false h24
      clear h
      go_enter Tryd.func56, Tryd.ntmps56
      go_wp2
      go_ret
      exact ⟨rfl, below_alloc (Below.refl _ _) _⟩
  · rw [if_neg h2] at h
    have hf := Option.some.inj h
    subst hf
    have d2' : decide (2 ≤ a0) = false := decide_eq_false h2
    clear h
    go_enter Tryd.func56, Tryd.ntmps56
    go_wp2
    go_ret
    exact ⟨rfl, below_alloc (Below.refl _ _) _⟩

end Go.Proofs.YtfpnojcbhbkfaaaDoor.P
namespace Go.Proofs.YtfpnojcbhbkfaaaDoor.P
/-! Sets of small numbers as natural numbers; pigeonholes. Plain Lean. -/

def orAll (s : Nat) (xs : List Nat) : Nat := xs.foldl (fun s x => s ||| 2 ^ x) s

theorem orAll_nil (s : Nat) : orAll s [] = s := rfl
theorem orAll_cons (s x : Nat) (xs : List Nat) : orAll s (x :: xs) = orAll (s ||| 2 ^ x) xs := rfl
theorem orAll_snoc (s x : Nat) (xs : List Nat) : orAll s (xs ++ [x]) = orAll s xs ||| 2 ^ x := by
  simp [orAll, List.foldl_append]

theorem testBit_or_two_pow (s x i : Nat) : (s ||| 2 ^ x).testBit i = (s.testBit i || decide (x = i)) := by
  rw [Nat.testBit_or, Nat.testBit_two_pow]

theorem testBit_orAll (xs : List Nat) : ∀ (s i : Nat), (orAll s xs).testBit i = (s.testBit i || decide (i ∈ xs)) := by
  induction xs with
  | nil => intro s i; simp [orAll]
  | cons x xs ih =>
    intro s i
    rw [orAll_cons, ih, testBit_or_two_pow, Bool.or_assoc]
    congr 1
    by_cases h : x = i
    · subst h; simp
    · have h' : ¬ i = x := fun e => h e.symm
      simp [h, h']

theorem orAll_lt {m : Nat} (xs : List Nat) (h : ∀ x ∈ xs, x < m) : ∀ s, s < 2 ^ m → orAll s xs < 2 ^ m := by
  induction xs with
  | nil => intro s hs; exact hs
  | cons x xs ih =>
    intro s hs
    rw [orAll_cons]
    refine ih (fun y hy => h y (List.mem_cons_of_mem _ hy)) _ (Nat.or_lt_two_pow hs ?_)
    exact Nat.pow_lt_pow_right (by omega) (h x List.mem_cons_self)

theorem full_iff {n s : Nat} : s = 2 ^ n - 1 ↔ ∀ i, s.testBit i = decide (i < n) := by
  constructor
  · rintro rfl i; exact Nat.testBit_two_pow_sub_one n i
  · intro h; exact Nat.eq_of_testBit_eq fun i => by rw [h, Nat.testBit_two_pow_sub_one]

theorem testBit_full2 (n i : Nat) (hn : 1 ≤ n) : (2 ^ n - 2).testBit i = (decide (i < n) && decide (1 ≤ i)) := by
  obtain ⟨m, rfl⟩ : ∃ m, n = m + 1 := ⟨n - 1, by omega⟩
  have e : 2 ^ (m + 1) - 2 = 2 * (2 ^ m - 1) := by have := Nat.two_pow_pos m; rw [Nat.pow_succ]; omega
  rw [e]
  cases i with
  | zero => simp [Nat.testBit_zero]
  | succ i =>
    rw [Nat.testBit_succ, show 2 * (2 ^ m - 1) / 2 = 2 ^ m - 1 by omega, Nat.testBit_two_pow_sub_one]
    simp

theorem orAll_full {n : Nat} (xs : List Nat) (h : ∀ x ∈ xs, x < n) : orAll 0 xs = 2 ^ n - 1 ↔ ∀ i, i < n → i ∈ xs := by
  rw [full_iff]
  constructor
  · intro hh i hi
    have := hh i
    rw [testBit_orAll] at this
    simpa [hi] using this
  · intro hh i
    rw [testBit_orAll]
    by_cases hi : i < n
    · simp [hi, hh i hi]
    · have : i ∉ xs := fun hm => hi (h i hm)
      simp [hi, this]

theorem orAll_full2 {n : Nat} (hn : 1 ≤ n) (xs : List Nat) (h : ∀ x ∈ xs, 1 ≤ x ∧ x < n) : orAll 0 xs = 2 ^ n - 2 ↔ ∀ i, 1 ≤ i → i < n → i ∈ xs := by
  constructor
  · intro hh i h1 hi
    have h2 : (orAll 0 xs).testBit i = (2 ^ n - 2).testBit i := by rw [hh]
    rw [testBit_orAll, testBit_full2 n i hn] at h2
    simpa [hi, h1] using h2
  · intro hh
    refine Nat.eq_of_testBit_eq fun i => ?_
    rw [testBit_orAll, testBit_full2 n i hn]
    by_cases hi : i < n
    · by_cases h1 : 1 ≤ i
      · simp [hi, h1, hh i h1 hi]
      · have : i ∉ xs := fun hm => h1 (h i hm).1
        simp [h1, this]
    · have : i ∉ xs := fun hm => hi (h i hm).2
      simp [hi, this]

/-! pigeonholes -/
theorem nodup_of_full {n : Nat} {xs : List Nat} (hl : xs.length = n) (hf : ∀ i, i < n → i ∈ xs) : xs.Nodup := by
  rw [List.nodup_iff_count]
  intro a
  refine Nat.not_lt.1 fun hc => ?_
  have ha : a ∈ xs := List.count_pos_iff.1 (by omega)
  have hsub : List.range n ⊆ xs.erase a := by
    intro i hi
    have hm := hf i (List.mem_range.1 hi)
    by_cases e : i = a
    · subst e
      exact List.count_pos_iff.1 (by rw [List.count_erase_self]; omega)
    · exact (List.mem_erase_of_ne e).2 hm
  have := List.Nodup.length_le_of_subset List.nodup_range hsub
  rw [List.length_erase, if_pos ha, List.length_range] at this
  have : 0 < xs.length := List.length_pos_of_mem ha
  omega

theorem full_of_nodup {n : Nat} {xs : List Nat} (hl : xs.length = n) (hr : ∀ x ∈ xs, x < n) (hd : xs.Nodup) : ∀ i, i < n → i ∈ xs := by
  intro i hi
  refine Classical.byContradiction fun hni => ?_
  have hsub : (i :: xs) ⊆ List.range n := by
    intro x hx
    rcases List.mem_cons.1 hx with rfl | hx
    · exact List.mem_range.2 hi
    · exact List.mem_range.2 (hr x hx)
  have := List.Nodup.length_le_of_subset (List.nodup_cons.2 ⟨hni, hd⟩) hsub
  simp at this
  omega
end Go.Proofs.YtfpnojcbhbkfaaaDoor.P
namespace Go.Proofs.YtfpnojcbhbkfaaaDoor.P
/-! Counting on a circle. Plain Lean. -/
/-- A value that is not to be reckoned out by the kernel. -/
noncomputable def Seal {α : Type} (a : α) : α := Classical.choose (⟨a, rfl⟩ : ∃ x, x = a)
theorem Seal_eq {α : Type} (a : α) : Seal a = a := Classical.choose_spec (⟨a, rfl⟩ : ∃ x, x = a)
noncomputable def cnt (n : Nat) (p : Nat → Bool) : Nat := Seal ((List.range n).countP p)
theorem cnt_eq (n : Nat) (p : Nat → Bool) : cnt n p = (List.range n).countP p := Seal_eq _
theorem cnt_congr {n : Nat} {p q : Nat → Bool} (h : ∀ i, i < n → p i = q i) : cnt n p = cnt n q := by
  rw [cnt_eq, cnt_eq]
  exact List.countP_congr (fun i hi => by rw [h i (List.mem_range.1 hi)])
theorem cnt_le (n : Nat) (p : Nat → Bool) : cnt n p ≤ n := by
  have := List.countP_le_length (p := p) (l := List.range n)
  simpa [cnt_eq] using this
theorem map_perm_range {n : Nat} {f : Nat → Nat} (hr : ∀ i, i < n → f i < n) (hi : ∀ i, i < n → ∀ j, j < n → f i = f j → i = j) : ((List.range n).map f).Perm (List.range n) := by
  have hd : ((List.range n).map f).Nodup := by
    rw [List.nodup_iff_pairwise_ne, List.pairwise_map]
    refine List.Pairwise.imp_of_mem ?_ (List.nodup_range (n := n))
    intro a b ha hb hab e
    exact hab (hi a (List.mem_range.1 ha) b (List.mem_range.1 hb) e)
  have hr' : ∀ x ∈ (List.range n).map f, x < n := by
    intro x hx
    obtain ⟨y, hy, rfl⟩ := List.mem_map.1 hx
    exact hr y (List.mem_range.1 hy)
  rw [List.perm_ext_iff_of_nodup hd List.nodup_range]
  intro a
  rw [List.mem_range]
  exact ⟨hr' a, full_of_nodup (by simp) hr' hd a⟩
/-- counting does not care for the order -/
theorem cnt_perm {n : Nat} {f : Nat → Nat} (hr : ∀ i, i < n → f i < n) (hi : ∀ i, i < n → ∀ j, j < n → f i = f j → i = j) (p : Nat → Bool) : cnt n (fun i => p (f i)) = cnt n p := by
  have h := (map_perm_range hr hi).countP_eq p
  rw [List.countP_map] at h
  rw [cnt_eq, cnt_eq]
  exact h
theorem add_mod_inj {n e i j : Nat} (hi : i < n) (hj : j < n) (h : (i + e) % n = (j + e) % n) : i = j := by
  have h1 : (i + e) % n = (i + e % n) % n := by rw [Nat.add_mod_mod]
  have h2 : (j + e) % n = (j + e % n) % n := by rw [Nat.add_mod_mod]
  rw [h1, h2] at h
  have he : e % n < n := Nat.mod_lt _ (by omega)
  generalize e % n = t at *
  rcases Nat.lt_or_ge (i + t) n with a | a <;> rcases Nat.lt_or_ge (j + t) n with b | b
  · rw [Nat.mod_eq_of_lt a, Nat.mod_eq_of_lt b] at h; omega
  · rw [Nat.mod_eq_of_lt a, Nat.mod_eq_sub_mod b, Nat.mod_eq_of_lt (by omega)] at h; omega
  · rw [Nat.mod_eq_of_lt b, Nat.mod_eq_sub_mod a, Nat.mod_eq_of_lt (by omega)] at h; omega
  · rw [Nat.mod_eq_sub_mod b, Nat.mod_eq_sub_mod a, Nat.mod_eq_of_lt (by omega), Nat.mod_eq_of_lt (by omega)] at h; omega
theorem cnt_shift {n : Nat} (e : Nat) (p : Nat → Bool) : cnt n (fun i => p ((i + e) % n)) = cnt n p :=
  cnt_perm (f := fun i => (i + e) % n) (fun i hi => Nat.mod_lt _ (by omega)) (fun _ hi _ hj h => add_mod_inj hi hj h) p
theorem cnt_split {n : Nat} (p q : Nat → Bool) : cnt n p = cnt n (fun i => p i && q i) + cnt n (fun i => p i && !q i) := by
  simp only [cnt_eq]
  generalize List.range n = l
  induction l with
  | nil => rfl
  | cons x xs ih =>
    simp only [List.countP_cons, ih]
    cases p x <;> cases q x <;> simp <;> omega
theorem cnt_not {n : Nat} (p : Nat → Bool) : cnt n (fun i => !p i) = n - cnt n p := by
  have h := cnt_split (n := n) (fun _ => true) p
  have h1 : cnt n (fun _ => true) = n := by simp [cnt_eq]
  simp only [Bool.true_and] at h
  have e : cnt n (fun i => p i) = cnt n p := rfl
  omega
/-- neither of two: all less each, and more by those of both -/
theorem cnt_neither {n : Nat} (p q : Nat → Bool) : cnt n (fun i => !p i && !q i) + cnt n p + cnt n q = n + cnt n (fun i => p i && q i) := by
  have h1 := cnt_split (n := n) (fun i => !p i) q
  have h2 := cnt_split (n := n) q p
  have h3 := cnt_not (n := n) p
  have h4 := cnt_le n p
  have e1 : cnt n (fun i => !p i && q i) = cnt n (fun i => q i && !p i) := cnt_congr (fun i _ => Bool.and_comm _ _)
  have e2 : cnt n (fun i => p i && q i) = cnt n (fun i => q i && p i) := cnt_congr (fun i _ => Bool.and_comm _ _)
  omega

/-! chords: sets of tones -/
noncomputable def chSize (n a : Nat) : Nat := cnt n a.testBit
theorem chSize_bits (n a : Nat) : cntBits n a = chSize n a := by unfold chSize; rw [cnt_eq]; rfl
def moveN (n c j : Nat) : Nat := (c * 2 ^ j ||| c / 2 ^ (n - j)) &&& (2 ^ n - 1)
theorem moveN_lt (n c j : Nat) : moveN n c j < 2 ^ n := by
  unfold moveN
  refine Nat.lt_of_le_of_lt Nat.and_le_right ?_
  have := Nat.two_pow_pos n
  omega
theorem testBit_moveN {n c j i : Nat} (hc : c < 2 ^ n) (hj : j < n) (hi : i < n) : (moveN n c j).testBit i = c.testBit ((i + (n - j)) % n) := by
  unfold moveN
  rw [Nat.testBit_and, Nat.testBit_or, Nat.testBit_two_pow_sub_one, Nat.testBit_mul_two_pow, Nat.testBit_div_two_pow]
  simp only [hi, decide_true, Bool.and_true]
  by_cases h : j ≤ i
  · have e : (i + (n - j)) % n = i - j := by rw [show i + (n - j) = (i - j) + n by omega, Nat.add_mod_right, Nat.mod_eq_of_lt (by omega)]
    have e2 : c.testBit (i + (n - j)) = false := Nat.testBit_lt_two_pow (Nat.lt_of_lt_of_le hc (Nat.pow_le_pow_right (by omega) (by omega)))
    rw [e, e2]
    simp [h]
  · have e : (i + (n - j)) % n = i + (n - j) := Nat.mod_eq_of_lt (by omega)
    rw [e]
    simp [h]
theorem testBit_big {n c i : Nat} (hc : c < 2 ^ n) (hi : n ≤ i) : c.testBit i = false := Nat.testBit_lt_two_pow (Nat.lt_of_lt_of_le hc (Nat.pow_le_pow_right (by omega) hi))
theorem bits_ext {n a b : Nat} (ha : a < 2 ^ n) (hb : b < 2 ^ n) (h : ∀ i, i < n → a.testBit i = b.testBit i) : a = b := by
  refine Nat.eq_of_testBit_eq fun i => ?_
  rcases Nat.lt_or_ge i n with hi | hi
  · exact h i hi
  · rw [testBit_big ha hi, testBit_big hb hi]
/-- by how many tones a chord and one that is moved by d agree -/
noncomputable def common (n a b d : Nat) : Nat := cnt n (fun i => a.testBit i && b.testBit ((i + (n - d)) % n))
theorem chSize_and_move {n a b d : Nat} (hb : b < 2 ^ n) (hd : d < n) : chSize n (a &&& moveN n b d) = common n a b d := by
  unfold chSize common
  exact cnt_congr (fun i hi => by rw [Nat.testBit_and, testBit_moveN hb hd hi])
noncomputable def vecAt (n c d : Nat) : Nat := if 2 * d = n then common n c c d / 2 else common n c c d
noncomputable def vecOf (n c : Nat) : List Int := Seal ((List.range (n / 2)).map (fun i => (vecAt n c (i + 1) : Int)))
theorem vecOf_eq (n c : Nat) : vecOf n c = (List.range (n / 2)).map (fun i => (vecAt n c (i + 1) : Int)) := Seal_eq _
theorem vecOf_length (n c : Nat) : (vecOf n c).length = n / 2 := by simp [vecOf_eq]
theorem vecOf_get {n c i : Nat} (h : i < n / 2) : (vecOf n c)[i]? = some (vecAt n c (i + 1) : Int) := by simp [vecOf_eq, h]
def compl (n c : Nat) : Nat := 2 ^ n - 1 - c
theorem testBit_compl {n c i : Nat} (hc : c < 2 ^ n) (hi : i < n) : (compl n c).testBit i = !c.testBit i := by
  have h : compl n c = 2 ^ n - (c + 1) := by unfold compl; omega
  rw [h, Nat.testBit_two_pow_sub_succ hc]
  simp [hi]
theorem compl_lt (n c : Nat) : compl n c < 2 ^ n := by have := Nat.two_pow_pos n; unfold compl; omega
/-- 'a & (a - 1)' is a without its least number -/
theorem testBit_pred {a : Nat} : ∀ n, a < 2 ^ n → 0 < a → ∃ m, m < n ∧ a.testBit m = true ∧ ∀ j, (a &&& (a - 1)).testBit j = (a.testBit j && !decide (j = m)) := by
  intro n
  induction n generalizing a with
  | zero => intro h h0; simp at h; omega
  | succ n ih =>
    intro h h0
    rcases Nat.mod_two_eq_zero_or_one a with e | e
    · obtain ⟨m, hm, hb, hj⟩ := ih (a := a / 2) (by rw [Nat.pow_succ] at h; omega) (by omega)
      refine ⟨m + 1, by omega, by rw [Nat.testBit_succ]; exact hb, fun j => ?_⟩
      cases j with
      | zero =>
        rw [Nat.testBit_and]
        have : a.testBit 0 = false := by rw [Nat.testBit_zero, e]; rfl
        rw [this]; rfl
      | succ j =>
        have h1 := hj j
        rw [Nat.testBit_and] at h1 ⊢
        rw [Nat.testBit_succ, Nat.testBit_succ, show (a - 1) / 2 = a / 2 - 1 by omega, h1]
        congr 1
        simp
    · refine ⟨0, by omega, by rw [Nat.testBit_zero, e]; rfl, fun j => ?_⟩
      cases j with
      | zero =>
        rw [Nat.testBit_and]
        have : (a - 1).testBit 0 = false := by rw [Nat.testBit_zero, show (a - 1) % 2 = 0 by omega]; rfl
        rw [this]; simp
      | succ j =>
        rw [Nat.testBit_and, Nat.testBit_succ, Nat.testBit_succ, show (a - 1) / 2 = a / 2 by omega, Bool.and_self]
        simp
theorem chSize_drop {n a : Nat} (ha : a < 2 ^ n) (h0 : 0 < a) : chSize n (a &&& (a - 1)) + 1 = chSize n a := by
  obtain ⟨m, hm, hb, hj⟩ := testBit_pred n ha h0
  have h1 := cnt_split (n := n) a.testBit (fun j => !decide (j = m))
  have h2 : cnt n (fun i => a.testBit i && !!decide (i = m)) = 1 := by
    have : cnt n (fun i => a.testBit i && !!decide (i = m)) = (List.range n).count m := by
      rw [cnt_eq, List.count]
      refine List.countP_congr (fun i _ => ?_)
      by_cases e : i = m
      · subst e; simp [hb]
      · simp [e]
    rw [this, List.nodup_range.count, if_pos (List.mem_range.2 hm)]
  have h3 : chSize n (a &&& (a - 1)) = cnt n (fun i => a.testBit i && !decide (i = m)) := by
    unfold chSize
    exact cnt_congr (fun i _ => by rw [hj])
  have h4 : chSize n a = cnt n a.testBit := rfl
  rw [h4, h3, h1, h2]
theorem chSize_cnt (n a : Nat) : chSize n a = cnt n a.testBit := rfl
theorem common_cnt (n a b d : Nat) : common n a b d = cnt n (fun i => a.testBit i && b.testBit ((i + (n - d)) % n)) := rfl
theorem chSize_le (n a : Nat) : chSize n a ≤ n := cnt_le _ _
theorem common_le (n a b d : Nat) : common n a b d ≤ n := cnt_le _ _
theorem vecAt_le (n c d : Nat) : vecAt n c d ≤ n := by
  have : common n c c d ≤ n := cnt_le _ _
  unfold vecAt; split <;> omega
theorem chSize_zero (n : Nat) : chSize n 0 = 0 := by unfold chSize; rw [cnt_eq, List.countP_eq_zero]; intro i _; simp
theorem eq_zero_of_chSize {n a : Nat} (ha : a < 2 ^ n) (h : chSize n a = 0) : a = 0 := by
  refine bits_ext ha (Nat.two_pow_pos n) (fun i hi => ?_)
  unfold chSize at h
  rw [cnt_eq] at h
  have := List.countP_eq_zero.1 h i (List.mem_range.2 hi)
  simp at this
  simp [this]
end Go.Proofs.YtfpnojcbhbkfaaaDoor.P
namespace Go.Proofs.YtfpnojcbhbkfaaaDoor.P
/-! The bits of a set, one after the other, and what becomes of a set whose bits are mapped. Plain Lean. -/
inductive TonesOf : Nat → List Nat → Prop
  | nil : TonesOf 0 []
  | cons {c m : Nat} {xs : List Nat} : c.testBit m = true → (∀ j, (c &&& (c - 1)).testBit j = (c.testBit j && !decide (j = m))) → TonesOf (c &&& (c - 1)) xs → TonesOf c (m :: xs)
theorem and_pred_lt {c : Nat} (h : 0 < c) : c &&& (c - 1) < c := Nat.lt_of_le_of_lt Nat.and_le_right (by omega)
theorem tones_exist {n : Nat} : ∀ c, c < 2 ^ n → ∃ xs, TonesOf c xs := by
  intro c
  induction c using Nat.strongRecOn with
  | _ c ih =>
    intro hc
    rcases Nat.eq_zero_or_pos c with h | h
    · subst h; exact ⟨[], .nil⟩
    · obtain ⟨m, _, h1, h2⟩ := testBit_pred n hc h
      obtain ⟨xs, hx⟩ := ih _ (and_pred_lt h) (Nat.lt_trans (and_pred_lt h) hc)
      exact ⟨m :: xs, .cons h1 h2 hx⟩
theorem tones_mem {c : Nat} {xs : List Nat} (h : TonesOf c xs) : ∀ y, y ∈ xs ↔ c.testBit y = true := by
  induction h with
  | nil => intro y; simp
  | @cons c m xs h1 h2 _ ih =>
    intro y
    rw [List.mem_cons, ih y, h2 y]
    by_cases e : y = m
    · subst e; simp [h1]
    · simp [e]
theorem tones_zero {xs : List Nat} (h : TonesOf 0 xs) : xs = [] := by
  cases h with
  | nil => rfl
  | cons h1 => simp at h1
theorem tones_cons {c : Nat} (hc : 0 < c) {xs : List Nat} (h : TonesOf c xs) : ∃ m r, xs = m :: r ∧ c.testBit m = true ∧ (∀ j, (c &&& (c - 1)).testBit j = (c.testBit j && !decide (j = m))) ∧ TonesOf (c &&& (c - 1)) r := by
  cases h with
  | nil => omega
  | cons h1 h2 h3 => exact ⟨_, _, rfl, h1, h2, h3⟩
/-- the lowest bit stands alone -/
theorem low_alone {c m : Nat} (hc : c < 2 ^ 24) (hp : 0 < c) (h1 : c.testBit m = true) (h2 : ∀ j, (c &&& (c - 1)).testBit j = (c.testBit j && !decide (j = m))) : c &&& (18446744073709551616 - c) = 2 ^ m := by
  refine Nat.eq_of_testBit_eq (fun i => ?_)
  have h64 : (18446744073709551616 : Nat) = 2 ^ 64 := by decide
  have h24 : (2 : Nat) ^ 24 = 16777216 := by decide
  rw [Nat.testBit_and, h64, show 2 ^ 64 - c = 2 ^ 64 - ((c - 1) + 1) by omega, Nat.testBit_two_pow_sub_succ (by omega), Nat.testBit_two_pow]
  have h := h2 i
  rw [Nat.testBit_and] at h
  cases hi : c.testBit i with
  | false =>
    have : m ≠ i := fun e => by rw [← e, h1] at hi; cases hi
    simp [this]
  | true =>
    rw [hi] at h
    simp only [Bool.true_and] at h
    rw [h, Bool.not_not]
    have hi64 : i < 64 := by
      rcases Nat.lt_or_ge i 64 with g | g
      · exact g
      · rw [Nat.testBit_lt_two_pow (Nat.lt_of_lt_of_le hc (Nat.pow_le_pow_right (by omega) (by omega)))] at hi; cases hi
    simp [hi64, eq_comm]
theorem bit_lt {n c m : Nat} (hc : c < 2 ^ n) (h : c.testBit m = true) : m < n := by
  rcases Nat.lt_or_ge m n with g | g
  · exact g
  · rw [testBit_big hc g] at h; cases h
/-- the set of all places to which tones go -/
def orMap (φ : Nat → Nat) (xs : List Nat) : Nat := xs.foldl (fun o x => o ||| 2 ^ (φ x)) 0
theorem orMap_snoc (φ : Nat → Nat) (pre : List Nat) (x : Nat) : orMap φ (pre ++ [x]) = orMap φ pre ||| 2 ^ (φ x) := by simp [orMap]
theorem orMap_lt {φ : Nat → Nat} {n : Nat} (ht : ∀ x, φ x < n) (xs : List Nat) : orMap φ xs < 2 ^ n := by
  have go : ∀ (xs : List Nat) (o : Nat), o < 2 ^ n → xs.foldl (fun o x => o ||| 2 ^ (φ x)) o < 2 ^ n := by
    intro xs
    induction xs with
    | nil => intro o h; exact h
    | cons x xs ih => intro o h; exact ih _ (Nat.or_lt_two_pow h (Nat.pow_lt_pow_right (by omega) (ht x)))
  exact go xs 0 (Nat.two_pow_pos n)
theorem orMap_bit (φ : Nat → Nat) (xs : List Nat) (i : Nat) : (orMap φ xs).testBit i = true ↔ ∃ x ∈ xs, φ x = i := by
  have go : ∀ (xs : List Nat) (o : Nat), (xs.foldl (fun o x => o ||| 2 ^ (φ x)) o).testBit i = true ↔ (o.testBit i = true ∨ ∃ x ∈ xs, φ x = i) := by
    intro xs
    induction xs with
    | nil => intro o; simp
    | cons x xs ih =>
      intro o
      rw [List.foldl_cons, ih, Nat.testBit_or, Nat.testBit_two_pow, Bool.or_eq_true, or_assoc]
      simp
  rw [orMap, go]; simp
/-- a set mapped: which tones it has then -/
noncomputable def imgN (φ : Nat → Nat) (c : Nat) : Nat := open Classical in if h : ∃ xs, TonesOf c xs then orMap φ h.choose else 0
theorem imgN_of {φ : Nat → Nat} {c : Nat} {xs : List Nat} (h : TonesOf c xs) : orMap φ xs = imgN φ c := by
  have h1 : ∃ xs, TonesOf c xs := ⟨xs, h⟩
  unfold imgN
  rw [dif_pos h1]
  refine Nat.eq_of_testBit_eq (fun i => ?_)
  rw [Bool.eq_iff_iff, orMap_bit, orMap_bit]
  simp only [tones_mem h, tones_mem h1.choose_spec]
theorem imgN_bit {φ : Nat → Nat} {n c : Nat} (hc : c < 2 ^ n) (i : Nat) : (imgN φ c).testBit i = true ↔ ∃ x, c.testBit x = true ∧ φ x = i := by
  obtain ⟨xs, h⟩ := tones_exist c hc
  rw [← imgN_of h, orMap_bit]
  simp only [tones_mem h]
theorem imgN_lt {φ : Nat → Nat} {n c m : Nat} (hc : c < 2 ^ m) (ht : ∀ x, φ x < n) : imgN φ c < 2 ^ n := by
  obtain ⟨xs, h⟩ := tones_exist c hc
  rw [← imgN_of h]; exact orMap_lt ht xs
def accTo (φ : Nat → Nat) (c : Nat) : Nat → Nat
  | 0 => 0
  | d + 1 => if c.testBit d then accTo φ c d ||| 2 ^ (φ d) else accTo φ c d
theorem accTo_bit (φ : Nat → Nat) (c i : Nat) : ∀ d, (accTo φ c d).testBit i = true ↔ ∃ x, x < d ∧ c.testBit x = true ∧ φ x = i
  | 0 => by simp [accTo]
  | d + 1 => by
    have h := accTo_bit φ c i d
    simp only [accTo]
    by_cases hb : c.testBit d = true
    · rw [if_pos hb, Nat.testBit_or, Bool.or_eq_true, h, Nat.testBit_two_pow]
      constructor
      · rintro (⟨x, hx, h1, h2⟩ | h1)
        · exact ⟨x, by omega, h1, h2⟩
        · exact ⟨d, by omega, hb, by simpa using h1⟩
      · rintro ⟨x, hx, h1, h2⟩
        by_cases e : x = d
        · subst e; exact .inr (by simpa using h2)
        · exact .inl ⟨x, by omega, h1, h2⟩
    · rw [if_neg hb, h]
      constructor
      · rintro ⟨x, hx, h1, h2⟩; exact ⟨x, by omega, h1, h2⟩
      · rintro ⟨x, hx, h1, h2⟩
        by_cases e : x = d
        · subst e; exact absurd h1 hb
        · exact ⟨x, by omega, h1, h2⟩
theorem accTo_lt {φ : Nat → Nat} {n : Nat} (h : ∀ x, φ x < n) (c : Nat) : ∀ d, accTo φ c d < 2 ^ n
  | 0 => Nat.two_pow_pos n
  | d + 1 => by
    have := accTo_lt h c d
    simp only [accTo]
    split
    · exact Nat.or_lt_two_pow this (Nat.pow_lt_pow_right (by omega) (h d))
    · exact this
theorem accTo_all {φ : Nat → Nat} {n c : Nat} (hc : c < 2 ^ n) : accTo φ c n = imgN φ c := by
  refine Nat.eq_of_testBit_eq (fun i => ?_)
  rw [Bool.eq_iff_iff, accTo_bit, imgN_bit hc]
  exact ⟨fun ⟨x, _, h⟩ => ⟨x, h⟩, fun ⟨x, h⟩ => ⟨x, bit_lt hc h.1, h⟩⟩
end Go.Proofs.YtfpnojcbhbkfaaaDoor.P
namespace Go.Proofs.YtfpnojcbhbkfaaaDoor.P
open Go.RowKit Go.Proofs.YtfpnojcbhbkfaaaDoorW.PrintWords Go.Proofs.YtfpnojcbhbkfaaaDoorW.PrintLast Go.Proofs.YtfpnojcbhbkfaaaDoorW.PrintMore
attribute [local go_sem] max2_int min2_int max_two min_two max_three min_three max_four min_four   -- for this text's walks alone
set_option linter.unusedVariables false
set_option linter.unusedSimpArgs false

/-! math/bits.TrailingZeros of a set that is not empty; Go's table of sixty-four numbers, as the row lists it, lies where the variable lies -/
def tzTab : List Nat := [0, 1, 56, 2, 57, 49, 28, 3, 61, 58, 42, 50, 38, 29, 17, 4, 62, 47, 59, 36, 45, 43, 51, 22, 53, 39, 33, 30, 24, 18, 12, 5, 63, 55, 48, 27, 60, 41, 37, 16, 46, 35, 44, 21, 52, 32, 23, 11, 54, 26, 40, 15, 34, 20, 31, 10, 25, 14, 19, 9, 13, 8, 7, 6]
def Tabs (w : World) : Prop := ∀ i, i < 64 → w.cell? ⟨1, i, none⟩ = some (.int .u8 ((tzTab.getD i 0 : Nat) : Int))
theorem cell_heap {w w' : World} {b : Nat} (h : w'.heap[b]? = w.heap[b]?) (i : Nat) : w'.cell? ⟨b, i, none⟩ = w.cell? ⟨b, i, none⟩ := by unfold World.cell?; simp only [h]
theorem frozen_heap {w w' : World} {b : Nat} (h : w'.heap[b]? = w.heap[b]?) (i : Nat) : w'.frozen? ⟨b, i, none⟩ = w.frozen? ⟨b, i, none⟩ := by unfold World.frozen?; simp only [h]
theorem Tabs.heap {w w' : World} (hT : Tabs w) (h : w'.heap[1]? = w.heap[1]?) : Tabs w' := fun i hi => (cell_heap h i).trans (hT i hi)
theorem Tabs.size {w : World} (hT : Tabs w) : 1 < w.heap.size := World.block_lt_of_cell? w _ (hT 0 (by omega))
theorem Tabs.below {w w' : World} (hT : Tabs w) (h : Below w.heap.size w w') : Tabs w' := fun i hi => (h.cell (p := ⟨1, i, none⟩) hT.size).trans (hT i hi)
theorem tz_tab : ∀ t, t < 24 → (2 ^ t * 285870213051353865) % 18446744073709551616 / 288230376151711744 < 64 ∧ tzTab.getD ((2 ^ t * 285870213051353865) % 18446744073709551616 / 288230376151711744) 0 = t := by decide +kernel
theorem u64_mod (n : Int) : IntKind.u64.wrap n = n % 18446744073709551616 := by
  simp only [IntKind.wrap, IntKind.bits, IntKind.signed]
  simp
theorem u64_and {a b : Nat} (ha : a < 2 ^ 64) (hb : b < 2 ^ 64) : Go.bits .and .u64 (a : Int) (b : Int) = ((a &&& b : Nat) : Int) := by
  refine (bits_nat .u64 64 (by decide) (fun n h0 h1 => ?_) a b ha hb).1
  have : (2 : Int) ^ 64 = 18446744073709551616 := by decide
  rw [u64_mod, Int.emod_eq_of_lt h0 (by omega)]
theorem tz_nums {c m : Nat} (hc : c < 2 ^ 24) (hp : 0 < c) (h1 : c.testBit m = true) (h2 : ∀ j, (c &&& (c - 1)).testBit j = (c.testBit j && !decide (j = m))) :
    m < 24 ∧ ∃ y p j : Nat, IntKind.u64.wrap (-(c : Int)) = (y : Int) ∧ Go.bits .and .u64 (c : Int) (y : Int) = (p : Int) ∧ j < 64 ∧ tzTab.getD j 0 = m ∧
      ((IntKind.u64.wrap ((p : Int) * 285870213051353865)) / 288230376151711744 = (j : Int)) := by
  have hm := bit_lt hc h1
  have h24 : (2 : Nat) ^ 24 = 16777216 := by decide
  have h64 : (2 : Nat) ^ 64 = 18446744073709551616 := by decide
  refine ⟨hm, 18446744073709551616 - c, 2 ^ m, (2 ^ m * 285870213051353865) % 18446744073709551616 / 288230376151711744, ?_, ?_, (tz_tab m hm).1, (tz_tab m hm).2, ?_⟩
  · rw [u64_mod]; omega
  · rw [u64_and (by omega) (by omega), low_alone hc hp h1 h2]
  · rw [u64_mod]; omega
set_option maxHeartbeats 1000000 in
theorem TZ64_calls (c m : Nat) (hc : c < 2 ^ 24) (hp : 0 < c) (h1 : c.testBit m = true) (h2 : ∀ j, (c &&& (c - 1)).testBit j = (c.testBit j && !decide (j = m))) (w : World) (hT : Tabs w) :
    Calls Tryd.prog 121 #[.int .u64 (c : Int)] w fun e w' => e = .returned (.int .i64 (m : Int)) ∧ w' = w := by
  obtain ⟨hm, y, p, j, e1, e2, hj, ht, e3⟩ := tz_nums hc hp h1 h2
  have hcell := hT j hj
  rw [ht] at hcell
  have hne : ((c : Int) == 0) = false := beq_eq_false_iff_ne.2 (by omega)
  have H := Aside0.mk hm
  clear hT hp h1 h2 ht hc
  have hj0 : (0 : Int) ≤ (j : Int) := by omega
  have hj1 : (j : Int) < 64 := by omega
  go_enter Tryd.func121, Tryd.ntmps121
  go_wp2
  go_ret
  refine ⟨?_, rfl⟩
  have := H.out
  simp
theorem TZ_calls (c m : Nat) (hc : c < 2 ^ 24) (hp : 0 < c) (h1 : c.testBit m = true) (h2 : ∀ j, (c &&& (c - 1)).testBit j = (c.testBit j && !decide (j = m))) (w : World) (hT : Tabs w) :
    Calls Tryd.prog 93 #[.int .u64 (c : Int)] w fun e w' => e = .returned (.int .i64 (m : Int)) ∧ w' = w := by
  have HC := Aside0.mk (TZ64_calls c m hc hp h1 h2 w hT)
  have h24 : (2 : Nat) ^ 24 = 16777216 := by decide
  have e := u64_mod (c : Int)
  have e2 : IntKind.u64.wrap (c : Int) = (c : Int) := by rw [e]; omega
  clear hT hp h1 h2 hc e h24
  go_enter Tryd.func93, Tryd.ntmps93
  go_wp2_with (go_at_call 121; refine HC.out.mono ?_; rintro e w' ⟨rfl, rfl⟩)
  go_ret
  exact ⟨by simp, rfl⟩

end Go.Proofs.YtfpnojcbhbkfaaaDoor.P
