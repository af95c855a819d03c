/-
  NARROWER THAN 'FOR EVERY INPUT', by the rows' own cells (each row's printed sentence says how): CanonFolds: laid · CanonPartners: laid · CanonTurns: laid · CanonConditions: laid · CanonHajos: laid · CanonLists: laid.
  DERIVED. THE GIVEN ROWS OF THIS SEAT. 6 by the template 'for every input the law returns true; each argument reads behind the call as it read before'; 0 by the template 'total and deterministic' (their statements: YtkidgakjeahebaaDoorTotals.lean).
  GIVEN WITH THE SEED: the statements are not yours to turn. If you find one false, say at which input.
  Laid BY PROGRAM, IN A SANDBOX (cutbox-rows.mjs): the forced cells as the released guide's own fill.sh prints them over the translation 6bf2a2f326132ead… (all of the seat's roots in one cut). By AI agents, Wed Nov 11 2026. No macro, syntax, notation, axiom, sorry.
-/
import Derived.Test.YtkidgakjeahebaaDoorChecked
import GoSem.Claim
import GoSem.ClaimJoined
import GoSem.ClaimMapViews
import Derived.JoinedTies
import Derived.KernelRfl
namespace Go.Proofs.YtkidgakjeahebaaDoor
/- THE CELL 'sum', in the pinned program and in every row, IS THE sha256 OF THE DUMP (.gsa) THAT YtkidgakjeahebaaDoorProg.lean LOADS. Nothing in Lean hashes anything: it is a label: what it is worth is what the hold of that sum in a sandbox is worth. -/
noncomputable def Tryd.pinned : Pinned := { name := "ytkidgakjeahebaadoor", sum := "6bf2a2f326132ead2aab221c2f072e4dcb73aee974c8c5085952715b76e4b648", checked := Tryd.checked }
namespace Rows
def none {H : Type} : Left H := { results := [], args := [] }

/- WHAT THE LISTED PACKAGE-LEVEL VARIABLES READ AS WHEN THE CALL BEGINS. Each datum BY PROGRAM (the guide's laid-datum.mjs) off the statement by which the dump's own 'gosem.cut.vars' lays the variable. In a bare row this is a premise. The card (YtkidgakjeahebaaDoorCards.lean) ties it to the program's text. -/
def laid_math_bits_deBruijn32tab {H : Type} : DataW H := .agg [.lit (.int .u8 0), .lit (.int .u8 1), .lit (.int .u8 28), .lit (.int .u8 2), .lit (.int .u8 29), .lit (.int .u8 14), .lit (.int .u8 24), .lit (.int .u8 3), .lit (.int .u8 30), .lit (.int .u8 22), .lit (.int .u8 20), .lit (.int .u8 15), .lit (.int .u8 25), .lit (.int .u8 17), .lit (.int .u8 4), .lit (.int .u8 8), .lit (.int .u8 31), .lit (.int .u8 27), .lit (.int .u8 13), .lit (.int .u8 23), .lit (.int .u8 21), .lit (.int .u8 19), .lit (.int .u8 16), .lit (.int .u8 7), .lit (.int .u8 26), .lit (.int .u8 12), .lit (.int .u8 18), .lit (.int .u8 6), .lit (.int .u8 11), .lit (.int .u8 5), .lit (.int .u8 10), .lit (.int .u8 9)]
def laid_math_bits_deBruijn64tab {H : Type} : DataW H := .agg [.lit (.int .u8 0), .lit (.int .u8 1), .lit (.int .u8 56), .lit (.int .u8 2), .lit (.int .u8 57), .lit (.int .u8 49), .lit (.int .u8 28), .lit (.int .u8 3), .lit (.int .u8 61), .lit (.int .u8 58), .lit (.int .u8 42), .lit (.int .u8 50), .lit (.int .u8 38), .lit (.int .u8 29), .lit (.int .u8 17), .lit (.int .u8 4), .lit (.int .u8 62), .lit (.int .u8 47), .lit (.int .u8 59), .lit (.int .u8 36), .lit (.int .u8 45), .lit (.int .u8 43), .lit (.int .u8 51), .lit (.int .u8 22), .lit (.int .u8 53), .lit (.int .u8 39), .lit (.int .u8 33), .lit (.int .u8 30), .lit (.int .u8 24), .lit (.int .u8 18), .lit (.int .u8 12), .lit (.int .u8 5), .lit (.int .u8 63), .lit (.int .u8 55), .lit (.int .u8 48), .lit (.int .u8 27), .lit (.int .u8 60), .lit (.int .u8 41), .lit (.int .u8 37), .lit (.int .u8 16), .lit (.int .u8 46), .lit (.int .u8 35), .lit (.int .u8 44), .lit (.int .u8 21), .lit (.int .u8 52), .lit (.int .u8 32), .lit (.int .u8 23), .lit (.int .u8 11), .lit (.int .u8 54), .lit (.int .u8 26), .lit (.int .u8 40), .lit (.int .u8 15), .lit (.int .u8 34), .lit (.int .u8 20), .lit (.int .u8 31), .lit (.int .u8 10), .lit (.int .u8 25), .lit (.int .u8 14), .lit (.int .u8 19), .lit (.int .u8 9), .lit (.int .u8 13), .lit (.int .u8 8), .lit (.int .u8 7), .lit (.int .u8 6)]

/-- 'sackbutlaw02.CanonFolds': WHATEVER THE INPUT: true; the input reads as it did. -/
def canonFoldsSpec : ChangeSpec := { name := "canonFolds", fn := fun _ => fun
  | [d1, d2, d3] => { results := [.lit (.bool true)], args := [d1, d2, d3] }
  | _ => none }
def canonFoldsRow : OpenClaim := { program := "ytkidgakjeahebaadoor", sum := "6bf2a2f326132ead2aab221c2f072e4dcb73aee974c8c5085952715b76e4b648", func := "sackbut/sackbutlaw02.CanonFolds", spec := "canonFolds", unfollowed := true, recurses := true, named := ["math/bits.deBruijn32tab", "math/bits.deBruijn64tab"], apart := false, laid := [("math/bits.deBruijn32tab", laid_math_bits_deBruijn32tab), ("math/bits.deBruijn64tab", laid_math_bits_deBruijn64tab)] }
def CanonFoldsSaid : Prop := canonFoldsRow.holds Tryd.pinned (OpenSpec.ofChange canonFoldsSpec)

/-- ITS FALSE NEIGHBOUR: 'it returns false'. Refute it at one input. -/
def canonFoldsWrong : ChangeSpec := { name := "canonFolds", fn := fun _ => fun
  | [d1, d2, d3] => { results := [.lit (.bool false)], args := [d1, d2, d3] }
  | _ => none }
def CanonFoldsWrongFalsely : Prop := canonFoldsRow.holds Tryd.pinned (OpenSpec.ofChange canonFoldsWrong)

/-- 'sackbutlaw02.CanonPartners': WHATEVER THE INPUT: true; the input reads as it did. -/
def canonPartnersSpec : ChangeSpec := { name := "canonPartners", fn := fun _ => fun
  | [d1, d2] => { results := [.lit (.bool true)], args := [d1, d2] }
  | _ => none }
def canonPartnersRow : OpenClaim := { program := "ytkidgakjeahebaadoor", sum := "6bf2a2f326132ead2aab221c2f072e4dcb73aee974c8c5085952715b76e4b648", func := "sackbut/sackbutlaw02.CanonPartners", spec := "canonPartners", unfollowed := true, recurses := true, named := ["math/bits.deBruijn32tab", "math/bits.deBruijn64tab"], apart := false, laid := [("math/bits.deBruijn32tab", laid_math_bits_deBruijn32tab), ("math/bits.deBruijn64tab", laid_math_bits_deBruijn64tab)] }
def CanonPartnersSaid : Prop := canonPartnersRow.holds Tryd.pinned (OpenSpec.ofChange canonPartnersSpec)

/-- ITS FALSE NEIGHBOUR: 'it returns false'. Refute it at one input. -/
def canonPartnersWrong : ChangeSpec := { name := "canonPartners", fn := fun _ => fun
  | [d1, d2] => { results := [.lit (.bool false)], args := [d1, d2] }
  | _ => none }
def CanonPartnersWrongFalsely : Prop := canonPartnersRow.holds Tryd.pinned (OpenSpec.ofChange canonPartnersWrong)

/-- 'sackbutlaw02.CanonTurns': WHATEVER THE INPUT: true; the input reads as it did. -/
def canonTurnsSpec : ChangeSpec := { name := "canonTurns", fn := fun _ => fun
  | [d1, d2, d3, d4] => { results := [.lit (.bool true)], args := [d1, d2, d3, d4] }
  | _ => none }
def canonTurnsRow : OpenClaim := { program := "ytkidgakjeahebaadoor", sum := "6bf2a2f326132ead2aab221c2f072e4dcb73aee974c8c5085952715b76e4b648", func := "sackbut/sackbutlaw02.CanonTurns", spec := "canonTurns", unfollowed := true, recurses := true, named := ["math/bits.deBruijn32tab", "math/bits.deBruijn64tab"], apart := false, laid := [("math/bits.deBruijn32tab", laid_math_bits_deBruijn32tab), ("math/bits.deBruijn64tab", laid_math_bits_deBruijn64tab)] }
def CanonTurnsSaid : Prop := canonTurnsRow.holds Tryd.pinned (OpenSpec.ofChange canonTurnsSpec)

/-- ITS FALSE NEIGHBOUR: 'it returns false'. Refute it at one input. -/
def canonTurnsWrong : ChangeSpec := { name := "canonTurns", fn := fun _ => fun
  | [d1, d2, d3, d4] => { results := [.lit (.bool false)], args := [d1, d2, d3, d4] }
  | _ => none }
def CanonTurnsWrongFalsely : Prop := canonTurnsRow.holds Tryd.pinned (OpenSpec.ofChange canonTurnsWrong)

/-- 'sackbutlaw02.CanonConditions': WHATEVER THE INPUT: true; the input reads as it did. -/
def canonConditionsSpec : ChangeSpec := { name := "canonConditions", fn := fun _ => fun
  | [d1, d2] => { results := [.lit (.bool true)], args := [d1, d2] }
  | _ => none }
def canonConditionsRow : OpenClaim := { program := "ytkidgakjeahebaadoor", sum := "6bf2a2f326132ead2aab221c2f072e4dcb73aee974c8c5085952715b76e4b648", func := "sackbut/sackbutlaw02.CanonConditions", spec := "canonConditions", unfollowed := true, recurses := true, named := ["math/bits.deBruijn32tab", "math/bits.deBruijn64tab"], apart := false, laid := [("math/bits.deBruijn32tab", laid_math_bits_deBruijn32tab), ("math/bits.deBruijn64tab", laid_math_bits_deBruijn64tab)] }
def CanonConditionsSaid : Prop := canonConditionsRow.holds Tryd.pinned (OpenSpec.ofChange canonConditionsSpec)

/-- ITS FALSE NEIGHBOUR: 'it returns false'. Refute it at one input. -/
def canonConditionsWrong : ChangeSpec := { name := "canonConditions", fn := fun _ => fun
  | [d1, d2] => { results := [.lit (.bool false)], args := [d1, d2] }
  | _ => none }
def CanonConditionsWrongFalsely : Prop := canonConditionsRow.holds Tryd.pinned (OpenSpec.ofChange canonConditionsWrong)

/-- 'sackbutlaw02.CanonHajos': WHATEVER THE INPUT: true; the input reads as it did. -/
def canonHajosSpec : ChangeSpec := { name := "canonHajos", fn := fun _ => fun
  | [d1, d2] => { results := [.lit (.bool true)], args := [d1, d2] }
  | _ => none }
def canonHajosRow : OpenClaim := { program := "ytkidgakjeahebaadoor", sum := "6bf2a2f326132ead2aab221c2f072e4dcb73aee974c8c5085952715b76e4b648", func := "sackbut/sackbutlaw02.CanonHajos", spec := "canonHajos", unfollowed := true, recurses := true, named := ["math/bits.deBruijn32tab", "math/bits.deBruijn64tab"], apart := false, laid := [("math/bits.deBruijn32tab", laid_math_bits_deBruijn32tab), ("math/bits.deBruijn64tab", laid_math_bits_deBruijn64tab)] }
def CanonHajosSaid : Prop := canonHajosRow.holds Tryd.pinned (OpenSpec.ofChange canonHajosSpec)

/-- ITS FALSE NEIGHBOUR: 'it returns false'. Refute it at one input. -/
def canonHajosWrong : ChangeSpec := { name := "canonHajos", fn := fun _ => fun
  | [d1, d2] => { results := [.lit (.bool false)], args := [d1, d2] }
  | _ => none }
def CanonHajosWrongFalsely : Prop := canonHajosRow.holds Tryd.pinned (OpenSpec.ofChange canonHajosWrong)

/-- 'sackbutlaw02.CanonLists': WHATEVER THE INPUT: true; the input reads as it did. -/
def canonListsSpec : ChangeSpec := { name := "canonLists", fn := fun _ => fun
  | [d1, d2] => { results := [.lit (.bool true)], args := [d1, d2] }
  | _ => none }
def canonListsRow : OpenClaim := { program := "ytkidgakjeahebaadoor", sum := "6bf2a2f326132ead2aab221c2f072e4dcb73aee974c8c5085952715b76e4b648", func := "sackbut/sackbutlaw02.CanonLists", spec := "canonLists", unfollowed := true, recurses := true, named := ["math/bits.deBruijn32tab", "math/bits.deBruijn64tab"], apart := false, laid := [("math/bits.deBruijn32tab", laid_math_bits_deBruijn32tab), ("math/bits.deBruijn64tab", laid_math_bits_deBruijn64tab)] }
def CanonListsSaid : Prop := canonListsRow.holds Tryd.pinned (OpenSpec.ofChange canonListsSpec)

/-- ITS FALSE NEIGHBOUR: 'it returns false'. Refute it at one input. -/
def canonListsWrong : ChangeSpec := { name := "canonLists", fn := fun _ => fun
  | [d1, d2] => { results := [.lit (.bool false)], args := [d1, d2] }
  | _ => none }
def CanonListsWrongFalsely : Prop := canonListsRow.holds Tryd.pinned (OpenSpec.ofChange canonListsWrong)

/- THE SECOND FORM. 'bulk': how many values and letters a reading holds, each counted each time it is reached (what is shared counts as often as it is met; a slice's spare places count too). A statement '..UptoSaid' is the law's where the arguments, and the package variables that the reading takes, are together of bulk at most 1048576: NARROWER than '..Said'. Prove '..Said' where nothing that the law and all that it calls make is longer than what came in: it says more and counts as full. Else prove '..UptoSaid'. A law counts once. -/
mutual
def uptoBulk {H : Type} : DataW H → Nat
  | .lit (.string bytes) => bytes.length + 1
  | .lit _ => 1
  | .nil => 1
  | .ptr d => uptoBulk d + 1
  | .slice elems spare => uptoBulkAll elems + uptoBulkAll spare + 1
  | .agg parts => uptoBulkAll parts + 1
  | .iface _ d => uptoBulk d + 1
  | .map entries => uptoBulkEntries entries + 1
  | .held _ => 1
def uptoBulkAll {H : Type} : List (DataW H) → Nat
  | [] => 0
  | d :: r => uptoBulk d + uptoBulkAll r
def uptoBulkEntries {H : Type} : List (Lit × DataW H) → Nat
  | [] => 0
  | x :: r => uptoBulkEntry x + uptoBulkEntries r
def uptoBulkEntry {H : Type} : Lit × DataW H → Nat
  | (.string bytes, d) => bytes.length + uptoBulk d + 1
  | (_, d) => uptoBulk d + 1
 end
def uptoSmall : (H : Type) → List (DataW H) → Bool := fun _ ds => decide (uptoBulkAll ds ≤ 1048576)
def OpenSpec.upto (s : _root_.Go.ChangeSpec) : _root_.Go.OpenSpec := { _root_.Go.OpenSpec.ofChange s with cond := some uptoSmall }

/-- 'sackbutlaw02.CanonFolds', WHERE WHAT IT READS IS OF BULK AT MOST 1048576: true; the input reads as it did. -/
def canonFoldsUptoRow : OpenClaim := { program := "ytkidgakjeahebaadoor", sum := "6bf2a2f326132ead2aab221c2f072e4dcb73aee974c8c5085952715b76e4b648", func := "sackbut/sackbutlaw02.CanonFolds", spec := "canonFolds", unfollowed := true, recurses := true, named := ["math/bits.deBruijn32tab", "math/bits.deBruijn64tab"], apart := false, laid := [("math/bits.deBruijn32tab", laid_math_bits_deBruijn32tab), ("math/bits.deBruijn64tab", laid_math_bits_deBruijn64tab)], narrowed := true }
def CanonFoldsUptoSaid : Prop := canonFoldsUptoRow.holds Tryd.pinned (OpenSpec.upto canonFoldsSpec)

/-- 'sackbutlaw02.CanonPartners', WHERE WHAT IT READS IS OF BULK AT MOST 1048576: true; the input reads as it did. -/
def canonPartnersUptoRow : OpenClaim := { program := "ytkidgakjeahebaadoor", sum := "6bf2a2f326132ead2aab221c2f072e4dcb73aee974c8c5085952715b76e4b648", func := "sackbut/sackbutlaw02.CanonPartners", spec := "canonPartners", unfollowed := true, recurses := true, named := ["math/bits.deBruijn32tab", "math/bits.deBruijn64tab"], apart := false, laid := [("math/bits.deBruijn32tab", laid_math_bits_deBruijn32tab), ("math/bits.deBruijn64tab", laid_math_bits_deBruijn64tab)], narrowed := true }
def CanonPartnersUptoSaid : Prop := canonPartnersUptoRow.holds Tryd.pinned (OpenSpec.upto canonPartnersSpec)

/-- 'sackbutlaw02.CanonTurns', WHERE WHAT IT READS IS OF BULK AT MOST 1048576: true; the input reads as it did. -/
def canonTurnsUptoRow : OpenClaim := { program := "ytkidgakjeahebaadoor", sum := "6bf2a2f326132ead2aab221c2f072e4dcb73aee974c8c5085952715b76e4b648", func := "sackbut/sackbutlaw02.CanonTurns", spec := "canonTurns", unfollowed := true, recurses := true, named := ["math/bits.deBruijn32tab", "math/bits.deBruijn64tab"], apart := false, laid := [("math/bits.deBruijn32tab", laid_math_bits_deBruijn32tab), ("math/bits.deBruijn64tab", laid_math_bits_deBruijn64tab)], narrowed := true }
def CanonTurnsUptoSaid : Prop := canonTurnsUptoRow.holds Tryd.pinned (OpenSpec.upto canonTurnsSpec)

/-- 'sackbutlaw02.CanonConditions', WHERE WHAT IT READS IS OF BULK AT MOST 1048576: true; the input reads as it did. -/
def canonConditionsUptoRow : OpenClaim := { program := "ytkidgakjeahebaadoor", sum := "6bf2a2f326132ead2aab221c2f072e4dcb73aee974c8c5085952715b76e4b648", func := "sackbut/sackbutlaw02.CanonConditions", spec := "canonConditions", unfollowed := true, recurses := true, named := ["math/bits.deBruijn32tab", "math/bits.deBruijn64tab"], apart := false, laid := [("math/bits.deBruijn32tab", laid_math_bits_deBruijn32tab), ("math/bits.deBruijn64tab", laid_math_bits_deBruijn64tab)], narrowed := true }
def CanonConditionsUptoSaid : Prop := canonConditionsUptoRow.holds Tryd.pinned (OpenSpec.upto canonConditionsSpec)

/-- 'sackbutlaw02.CanonHajos', WHERE WHAT IT READS IS OF BULK AT MOST 1048576: true; the input reads as it did. -/
def canonHajosUptoRow : OpenClaim := { program := "ytkidgakjeahebaadoor", sum := "6bf2a2f326132ead2aab221c2f072e4dcb73aee974c8c5085952715b76e4b648", func := "sackbut/sackbutlaw02.CanonHajos", spec := "canonHajos", unfollowed := true, recurses := true, named := ["math/bits.deBruijn32tab", "math/bits.deBruijn64tab"], apart := false, laid := [("math/bits.deBruijn32tab", laid_math_bits_deBruijn32tab), ("math/bits.deBruijn64tab", laid_math_bits_deBruijn64tab)], narrowed := true }
def CanonHajosUptoSaid : Prop := canonHajosUptoRow.holds Tryd.pinned (OpenSpec.upto canonHajosSpec)

/-- 'sackbutlaw02.CanonLists', WHERE WHAT IT READS IS OF BULK AT MOST 1048576: true; the input reads as it did. -/
def canonListsUptoRow : OpenClaim := { program := "ytkidgakjeahebaadoor", sum := "6bf2a2f326132ead2aab221c2f072e4dcb73aee974c8c5085952715b76e4b648", func := "sackbut/sackbutlaw02.CanonLists", spec := "canonLists", unfollowed := true, recurses := true, named := ["math/bits.deBruijn32tab", "math/bits.deBruijn64tab"], apart := false, laid := [("math/bits.deBruijn32tab", laid_math_bits_deBruijn32tab), ("math/bits.deBruijn64tab", laid_math_bits_deBruijn64tab)], narrowed := true }
def CanonListsUptoSaid : Prop := canonListsUptoRow.holds Tryd.pinned (OpenSpec.upto canonListsSpec)

end Rows
end Go.Proofs.YtkidgakjeahebaaDoor
