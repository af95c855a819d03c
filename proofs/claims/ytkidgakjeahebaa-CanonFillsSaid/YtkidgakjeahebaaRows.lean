/-
  No cell of these rows narrows 'for every input' (looked for: loops, veiled, ifaces, maps, wideKeys, modest, calm, conditions, laid).
  DERIVED. THE GIVEN ROWS OF THIS SEAT. 5 by the template 'for every input the law returns true; each argument reads behind the call as it read before'; 0 by the template 'total and deterministic' (their statements: YtkidgakjeahebaaTotals.lean).
  GIVEN WITH THE SEED: the statements are not yours to turn. If you find one false, say at which input.
  Laid BY PROGRAM, IN A SANDBOX (cutbox-rows.mjs): the forced cells as the released guide's own fill.sh prints them over the translation 25ba7c5787d09c7b… (all of the seat's roots in one cut). By AI agents, Wed Nov 11 2026. No macro, syntax, notation, axiom, sorry.
-/
import Derived.Test.YtkidgakjeahebaaChecked
import GoSem.Claim
import GoSem.ClaimJoined
import GoSem.ClaimMapViews
import Derived.JoinedTies
import Derived.KernelRfl
namespace Go.Proofs.Ytkidgakjeahebaa
/- THE CELL 'sum', in the pinned program and in every row, IS THE sha256 OF THE DUMP (.gsa) THAT YtkidgakjeahebaaProg.lean LOADS. Nothing in Lean hashes anything: it is a label: what it is worth is what the hold of that sum in a sandbox is worth. -/
noncomputable def Try.pinned : Pinned := { name := "ytkidgakjeahebaa", sum := "25ba7c5787d09c7b14beb89d45d99d613ce4b2aff9f60cfc58320cbfeae5caa1", checked := Try.checked }
namespace Rows
def none {H : Type} : Left H := { results := [], args := [] }

/-- 'sackbutlaw02.CanonTiles': WHATEVER THE INPUT: true; the input reads as it did. -/
def canonTilesSpec : ChangeSpec := { name := "canonTiles", fn := fun _ => fun
  | [d1, d2, d3, d4] => { results := [.lit (.bool true)], args := [d1, d2, d3, d4] }
  | _ => none }
def canonTilesRow : OpenClaim := { program := "ytkidgakjeahebaa", sum := "25ba7c5787d09c7b14beb89d45d99d613ce4b2aff9f60cfc58320cbfeae5caa1", func := "sackbut/sackbutlaw02.CanonTiles", spec := "canonTiles", unfollowed := true, recurses := true, apart := false }
def CanonTilesSaid : Prop := canonTilesRow.holds Try.pinned (OpenSpec.ofChange canonTilesSpec)

/-- ITS FALSE NEIGHBOUR: 'it returns false'. Refute it at one input. -/
def canonTilesWrong : ChangeSpec := { name := "canonTiles", fn := fun _ => fun
  | [d1, d2, d3, d4] => { results := [.lit (.bool false)], args := [d1, d2, d3, d4] }
  | _ => none }
def CanonTilesWrongFalsely : Prop := canonTilesRow.holds Try.pinned (OpenSpec.ofChange canonTilesWrong)

/-- 'sackbutlaw02.CanonEnters': WHATEVER THE INPUT: true; the input reads as it did. -/
def canonEntersSpec : ChangeSpec := { name := "canonEnters", fn := fun _ => fun
  | [d1, d2, d3, d4] => { results := [.lit (.bool true)], args := [d1, d2, d3, d4] }
  | _ => none }
def canonEntersRow : OpenClaim := { program := "ytkidgakjeahebaa", sum := "25ba7c5787d09c7b14beb89d45d99d613ce4b2aff9f60cfc58320cbfeae5caa1", func := "sackbut/sackbutlaw02.CanonEnters", spec := "canonEnters", unfollowed := true, recurses := true, apart := false }
def CanonEntersSaid : Prop := canonEntersRow.holds Try.pinned (OpenSpec.ofChange canonEntersSpec)

/-- ITS FALSE NEIGHBOUR: 'it returns false'. Refute it at one input. -/
def canonEntersWrong : ChangeSpec := { name := "canonEnters", fn := fun _ => fun
  | [d1, d2, d3, d4] => { results := [.lit (.bool false)], args := [d1, d2, d3, d4] }
  | _ => none }
def CanonEntersWrongFalsely : Prop := canonEntersRow.holds Try.pinned (OpenSpec.ofChange canonEntersWrong)

/-- 'sackbutlaw02.CanonPeriods': WHATEVER THE INPUT: true; the input reads as it did. -/
def canonPeriodsSpec : ChangeSpec := { name := "canonPeriods", fn := fun _ => fun
  | [d1, d2, d3] => { results := [.lit (.bool true)], args := [d1, d2, d3] }
  | _ => none }
def canonPeriodsRow : OpenClaim := { program := "ytkidgakjeahebaa", sum := "25ba7c5787d09c7b14beb89d45d99d613ce4b2aff9f60cfc58320cbfeae5caa1", func := "sackbut/sackbutlaw02.CanonPeriods", spec := "canonPeriods", unfollowed := true, recurses := true, apart := false }
def CanonPeriodsSaid : Prop := canonPeriodsRow.holds Try.pinned (OpenSpec.ofChange canonPeriodsSpec)

/-- ITS FALSE NEIGHBOUR: 'it returns false'. Refute it at one input. -/
def canonPeriodsWrong : ChangeSpec := { name := "canonPeriods", fn := fun _ => fun
  | [d1, d2, d3] => { results := [.lit (.bool false)], args := [d1, d2, d3] }
  | _ => none }
def CanonPeriodsWrongFalsely : Prop := canonPeriodsRow.holds Try.pinned (OpenSpec.ofChange canonPeriodsWrong)

/-- 'sackbutlaw02.CanonFills': WHATEVER THE INPUT: true; the input reads as it did. -/
def canonFillsSpec : ChangeSpec := { name := "canonFills", fn := fun _ => fun
  | [d1, d2, d3] => { results := [.lit (.bool true)], args := [d1, d2, d3] }
  | _ => none }
def canonFillsRow : OpenClaim := { program := "ytkidgakjeahebaa", sum := "25ba7c5787d09c7b14beb89d45d99d613ce4b2aff9f60cfc58320cbfeae5caa1", func := "sackbut/sackbutlaw02.CanonFills", spec := "canonFills", unfollowed := true, recurses := true, apart := false }
def CanonFillsSaid : Prop := canonFillsRow.holds Try.pinned (OpenSpec.ofChange canonFillsSpec)

/-- ITS FALSE NEIGHBOUR: 'it returns false'. Refute it at one input. -/
def canonFillsWrong : ChangeSpec := { name := "canonFills", fn := fun _ => fun
  | [d1, d2, d3] => { results := [.lit (.bool false)], args := [d1, d2, d3] }
  | _ => none }
def CanonFillsWrongFalsely : Prop := canonFillsRow.holds Try.pinned (OpenSpec.ofChange canonFillsWrong)

/-- 'sackbutlaw02.CanonRoots': WHATEVER THE INPUT: true; the input reads as it did. -/
def canonRootsSpec : ChangeSpec := { name := "canonRoots", fn := fun _ => fun
  | [d1, d2] => { results := [.lit (.bool true)], args := [d1, d2] }
  | _ => none }
def canonRootsRow : OpenClaim := { program := "ytkidgakjeahebaa", sum := "25ba7c5787d09c7b14beb89d45d99d613ce4b2aff9f60cfc58320cbfeae5caa1", func := "sackbut/sackbutlaw02.CanonRoots", spec := "canonRoots", unfollowed := true, recurses := true, apart := false }
def CanonRootsSaid : Prop := canonRootsRow.holds Try.pinned (OpenSpec.ofChange canonRootsSpec)

/-- ITS FALSE NEIGHBOUR: 'it returns false'. Refute it at one input. -/
def canonRootsWrong : ChangeSpec := { name := "canonRoots", fn := fun _ => fun
  | [d1, d2] => { results := [.lit (.bool false)], args := [d1, d2] }
  | _ => none }
def CanonRootsWrongFalsely : Prop := canonRootsRow.holds Try.pinned (OpenSpec.ofChange canonRootsWrong)

/- THE SECOND FORM. 'bulk': how many values and letters a reading holds, each counted each time it is reached (what is shared counts as often as it is met; a slice's spare places count too). A statement '..UptoSaid' is the law's where the arguments, and the package variables that the reading takes, are together of bulk at most 1048576: NARROWER than '..Said'. Prove '..Said' where nothing that the law and all that it calls make is longer than what came in: it says more and counts as full. Else prove '..UptoSaid'. A law counts once. -/
mutual
def uptoBulk {H : Type} : DataW H → Nat
  | .lit (.string bytes) => bytes.length + 1
  | .lit _ => 1
  | .nil => 1
  | .ptr d => uptoBulk d + 1
  | .slice elems spare => uptoBulkAll elems + uptoBulkAll spare + 1
  | .agg parts => uptoBulkAll parts + 1
  | .iface _ d => uptoBulk d + 1
  | .map entries => uptoBulkEntries entries + 1
  | .held _ => 1
def uptoBulkAll {H : Type} : List (DataW H) → Nat
  | [] => 0
  | d :: r => uptoBulk d + uptoBulkAll r
def uptoBulkEntries {H : Type} : List (Lit × DataW H) → Nat
  | [] => 0
  | x :: r => uptoBulkEntry x + uptoBulkEntries r
def uptoBulkEntry {H : Type} : Lit × DataW H → Nat
  | (.string bytes, d) => bytes.length + uptoBulk d + 1
  | (_, d) => uptoBulk d + 1
 end
def uptoSmall : (H : Type) → List (DataW H) → Bool := fun _ ds => decide (uptoBulkAll ds ≤ 1048576)
def OpenSpec.upto (s : _root_.Go.ChangeSpec) : _root_.Go.OpenSpec := { _root_.Go.OpenSpec.ofChange s with cond := some uptoSmall }

/-- 'sackbutlaw02.CanonTiles', WHERE WHAT IT READS IS OF BULK AT MOST 1048576: true; the input reads as it did. -/
def canonTilesUptoRow : OpenClaim := { program := "ytkidgakjeahebaa", sum := "25ba7c5787d09c7b14beb89d45d99d613ce4b2aff9f60cfc58320cbfeae5caa1", func := "sackbut/sackbutlaw02.CanonTiles", spec := "canonTiles", unfollowed := true, recurses := true, apart := false, narrowed := true }
def CanonTilesUptoSaid : Prop := canonTilesUptoRow.holds Try.pinned (OpenSpec.upto canonTilesSpec)

/-- 'sackbutlaw02.CanonEnters', WHERE WHAT IT READS IS OF BULK AT MOST 1048576: true; the input reads as it did. -/
def canonEntersUptoRow : OpenClaim := { program := "ytkidgakjeahebaa", sum := "25ba7c5787d09c7b14beb89d45d99d613ce4b2aff9f60cfc58320cbfeae5caa1", func := "sackbut/sackbutlaw02.CanonEnters", spec := "canonEnters", unfollowed := true, recurses := true, apart := false, narrowed := true }
def CanonEntersUptoSaid : Prop := canonEntersUptoRow.holds Try.pinned (OpenSpec.upto canonEntersSpec)

/-- 'sackbutlaw02.CanonPeriods', WHERE WHAT IT READS IS OF BULK AT MOST 1048576: true; the input reads as it did. -/
def canonPeriodsUptoRow : OpenClaim := { program := "ytkidgakjeahebaa", sum := "25ba7c5787d09c7b14beb89d45d99d613ce4b2aff9f60cfc58320cbfeae5caa1", func := "sackbut/sackbutlaw02.CanonPeriods", spec := "canonPeriods", unfollowed := true, recurses := true, apart := false, narrowed := true }
def CanonPeriodsUptoSaid : Prop := canonPeriodsUptoRow.holds Try.pinned (OpenSpec.upto canonPeriodsSpec)

/-- 'sackbutlaw02.CanonFills', WHERE WHAT IT READS IS OF BULK AT MOST 1048576: true; the input reads as it did. -/
def canonFillsUptoRow : OpenClaim := { program := "ytkidgakjeahebaa", sum := "25ba7c5787d09c7b14beb89d45d99d613ce4b2aff9f60cfc58320cbfeae5caa1", func := "sackbut/sackbutlaw02.CanonFills", spec := "canonFills", unfollowed := true, recurses := true, apart := false, narrowed := true }
def CanonFillsUptoSaid : Prop := canonFillsUptoRow.holds Try.pinned (OpenSpec.upto canonFillsSpec)

/-- 'sackbutlaw02.CanonRoots', WHERE WHAT IT READS IS OF BULK AT MOST 1048576: true; the input reads as it did. -/
def canonRootsUptoRow : OpenClaim := { program := "ytkidgakjeahebaa", sum := "25ba7c5787d09c7b14beb89d45d99d613ce4b2aff9f60cfc58320cbfeae5caa1", func := "sackbut/sackbutlaw02.CanonRoots", spec := "canonRoots", unfollowed := true, recurses := true, apart := false, narrowed := true }
def CanonRootsUptoSaid : Prop := canonRootsUptoRow.holds Try.pinned (OpenSpec.upto canonRootsSpec)

end Rows
end Go.Proofs.Ytkidgakjeahebaa
