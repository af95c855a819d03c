/-
  No cell of these rows narrows 'for every input' (looked for: loops, veiled, ifaces, maps, wideKeys, modest, calm, conditions, laid).
  DERIVED. THE GIVEN ROWS OF THIS SEAT. 4 by the template 'for every input the law returns true; each argument reads behind the call as it read before'; 0 by the template 'total and deterministic' (their statements: YtknchioabngbiaaTotals.lean).
  GIVEN WITH THE SEED: the statements are not yours to turn. If you find one false, say at which input.
  Laid BY PROGRAM, IN A SANDBOX (cutbox-rows.mjs): the forced cells as the released guide's own fill.sh prints them over the translation 8c5c1f68f71fec54… (all of the seat's roots in one cut). By AI agents, Wed Nov 11 2026. No macro, syntax, notation, axiom, sorry.
-/
import Derived.Test.YtknchioabngbiaaChecked
import GoSem.Claim
import GoSem.ClaimJoined
import GoSem.ClaimMapViews
import Derived.JoinedTies
import Derived.KernelRfl
namespace Go.Proofs.Ytknchioabngbiaa
/- THE CELL 'sum', in the pinned program and in every row, IS THE sha256 OF THE DUMP (.gsa) THAT YtknchioabngbiaaProg.lean LOADS. Nothing in Lean hashes anything: it is a label: what it is worth is what the hold of that sum in a sandbox is worth. -/
noncomputable def Try.pinned : Pinned := { name := "ytknchioabngbiaa", sum := "8c5c1f68f71fec54aea64a038373459d19a12d2f75c37b39b87c3ce519a1e38c", checked := Try.checked }
namespace Rows
def none {H : Type} : Left H := { results := [], args := [] }

/-- 'sackbutlaw05.RowsKnown': WHATEVER THE INPUT: true; the input reads as it did. -/
def rowsKnownSpec : ChangeSpec := { name := "rowsKnown", fn := fun _ => fun
  | [d] => { results := [.lit (.bool true)], args := [d] }
  | _ => none }
def rowsKnownRow : OpenClaim := { program := "ytknchioabngbiaa", sum := "8c5c1f68f71fec54aea64a038373459d19a12d2f75c37b39b87c3ce519a1e38c", func := "sackbut/sackbutlaw05.RowsKnown", spec := "rowsKnown", unfollowed := true, recurses := true, apart := false }
def RowsKnownSaid : Prop := rowsKnownRow.holds Try.pinned (OpenSpec.ofChange rowsKnownSpec)

/-- ITS FALSE NEIGHBOUR: 'it returns false'. Refute it at one input. -/
def rowsKnownWrong : ChangeSpec := { name := "rowsKnown", fn := fun _ => fun
  | [d] => { results := [.lit (.bool false)], args := [d] }
  | _ => none }
def RowsKnownWrongFalsely : Prop := rowsKnownRow.holds Try.pinned (OpenSpec.ofChange rowsKnownWrong)

/-- 'sackbutlaw05.RowsTogether': WHATEVER THE INPUT: true; the input reads as it did. -/
def rowsTogetherSpec : ChangeSpec := { name := "rowsTogether", fn := fun _ => fun
  | [d1, d2, d3] => { results := [.lit (.bool true)], args := [d1, d2, d3] }
  | _ => none }
def rowsTogetherRow : OpenClaim := { program := "ytknchioabngbiaa", sum := "8c5c1f68f71fec54aea64a038373459d19a12d2f75c37b39b87c3ce519a1e38c", func := "sackbut/sackbutlaw05.RowsTogether", spec := "rowsTogether", unfollowed := true, recurses := true, apart := false }
def RowsTogetherSaid : Prop := rowsTogetherRow.holds Try.pinned (OpenSpec.ofChange rowsTogetherSpec)

/-- ITS FALSE NEIGHBOUR: 'it returns false'. Refute it at one input. -/
def rowsTogetherWrong : ChangeSpec := { name := "rowsTogether", fn := fun _ => fun
  | [d1, d2, d3] => { results := [.lit (.bool false)], args := [d1, d2, d3] }
  | _ => none }
def RowsTogetherWrongFalsely : Prop := rowsTogetherRow.holds Try.pinned (OpenSpec.ofChange rowsTogetherWrong)

/-- 'sackbutlaw05.RowsForms': WHATEVER THE INPUT: true; the input reads as it did. -/
def rowsFormsSpec : ChangeSpec := { name := "rowsForms", fn := fun _ => fun
  | [d1, d2, d3] => { results := [.lit (.bool true)], args := [d1, d2, d3] }
  | _ => none }
def rowsFormsRow : OpenClaim := { program := "ytknchioabngbiaa", sum := "8c5c1f68f71fec54aea64a038373459d19a12d2f75c37b39b87c3ce519a1e38c", func := "sackbut/sackbutlaw05.RowsForms", spec := "rowsForms", unfollowed := true, recurses := true, apart := false }
def RowsFormsSaid : Prop := rowsFormsRow.holds Try.pinned (OpenSpec.ofChange rowsFormsSpec)

/-- ITS FALSE NEIGHBOUR: 'it returns false'. Refute it at one input. -/
def rowsFormsWrong : ChangeSpec := { name := "rowsForms", fn := fun _ => fun
  | [d1, d2, d3] => { results := [.lit (.bool false)], args := [d1, d2, d3] }
  | _ => none }
def RowsFormsWrongFalsely : Prop := rowsFormsRow.holds Try.pinned (OpenSpec.ofChange rowsFormsWrong)

/-- 'sackbutlaw05.RowsClosed': WHATEVER THE INPUT: true; the input reads as it did. -/
def rowsClosedSpec : ChangeSpec := { name := "rowsClosed", fn := fun _ => fun
  | [d1, d2, d3, d4, d5] => { results := [.lit (.bool true)], args := [d1, d2, d3, d4, d5] }
  | _ => none }
def rowsClosedRow : OpenClaim := { program := "ytknchioabngbiaa", sum := "8c5c1f68f71fec54aea64a038373459d19a12d2f75c37b39b87c3ce519a1e38c", func := "sackbut/sackbutlaw05.RowsClosed", spec := "rowsClosed", unfollowed := true, recurses := true, apart := false }
def RowsClosedSaid : Prop := rowsClosedRow.holds Try.pinned (OpenSpec.ofChange rowsClosedSpec)

/-- ITS FALSE NEIGHBOUR: 'it returns false'. Refute it at one input. -/
def rowsClosedWrong : ChangeSpec := { name := "rowsClosed", fn := fun _ => fun
  | [d1, d2, d3, d4, d5] => { results := [.lit (.bool false)], args := [d1, d2, d3, d4, d5] }
  | _ => none }
def RowsClosedWrongFalsely : Prop := rowsClosedRow.holds Try.pinned (OpenSpec.ofChange rowsClosedWrong)

/- THE SECOND FORM. 'bulk': how many values and letters a reading holds, each counted each time it is reached (what is shared counts as often as it is met; a slice's spare places count too). A statement '..UptoSaid' is the law's where the arguments, and the package variables that the reading takes, are together of bulk at most 1048576: NARROWER than '..Said'. Prove '..Said' where nothing that the law and all that it calls make is longer than what came in: it says more and counts as full. Else prove '..UptoSaid'. A law counts once. -/
mutual
def uptoBulk {H : Type} : DataW H → Nat
  | .lit (.string bytes) => bytes.length + 1
  | .lit _ => 1
  | .nil => 1
  | .ptr d => uptoBulk d + 1
  | .slice elems spare => uptoBulkAll elems + uptoBulkAll spare + 1
  | .agg parts => uptoBulkAll parts + 1
  | .iface _ d => uptoBulk d + 1
  | .map entries => uptoBulkEntries entries + 1
  | .held _ => 1
def uptoBulkAll {H : Type} : List (DataW H) → Nat
  | [] => 0
  | d :: r => uptoBulk d + uptoBulkAll r
def uptoBulkEntries {H : Type} : List (Lit × DataW H) → Nat
  | [] => 0
  | x :: r => uptoBulkEntry x + uptoBulkEntries r
def uptoBulkEntry {H : Type} : Lit × DataW H → Nat
  | (.string bytes, d) => bytes.length + uptoBulk d + 1
  | (_, d) => uptoBulk d + 1
 end
def uptoSmall : (H : Type) → List (DataW H) → Bool := fun _ ds => decide (uptoBulkAll ds ≤ 1048576)
def OpenSpec.upto (s : _root_.Go.ChangeSpec) : _root_.Go.OpenSpec := { _root_.Go.OpenSpec.ofChange s with cond := some uptoSmall }

/-- 'sackbutlaw05.RowsKnown', WHERE WHAT IT READS IS OF BULK AT MOST 1048576: true; the input reads as it did. -/
def rowsKnownUptoRow : OpenClaim := { program := "ytknchioabngbiaa", sum := "8c5c1f68f71fec54aea64a038373459d19a12d2f75c37b39b87c3ce519a1e38c", func := "sackbut/sackbutlaw05.RowsKnown", spec := "rowsKnown", unfollowed := true, recurses := true, apart := false, narrowed := true }
def RowsKnownUptoSaid : Prop := rowsKnownUptoRow.holds Try.pinned (OpenSpec.upto rowsKnownSpec)

/-- 'sackbutlaw05.RowsTogether', WHERE WHAT IT READS IS OF BULK AT MOST 1048576: true; the input reads as it did. -/
def rowsTogetherUptoRow : OpenClaim := { program := "ytknchioabngbiaa", sum := "8c5c1f68f71fec54aea64a038373459d19a12d2f75c37b39b87c3ce519a1e38c", func := "sackbut/sackbutlaw05.RowsTogether", spec := "rowsTogether", unfollowed := true, recurses := true, apart := false, narrowed := true }
def RowsTogetherUptoSaid : Prop := rowsTogetherUptoRow.holds Try.pinned (OpenSpec.upto rowsTogetherSpec)

/-- 'sackbutlaw05.RowsForms', WHERE WHAT IT READS IS OF BULK AT MOST 1048576: true; the input reads as it did. -/
def rowsFormsUptoRow : OpenClaim := { program := "ytknchioabngbiaa", sum := "8c5c1f68f71fec54aea64a038373459d19a12d2f75c37b39b87c3ce519a1e38c", func := "sackbut/sackbutlaw05.RowsForms", spec := "rowsForms", unfollowed := true, recurses := true, apart := false, narrowed := true }
def RowsFormsUptoSaid : Prop := rowsFormsUptoRow.holds Try.pinned (OpenSpec.upto rowsFormsSpec)

/-- 'sackbutlaw05.RowsClosed', WHERE WHAT IT READS IS OF BULK AT MOST 1048576: true; the input reads as it did. -/
def rowsClosedUptoRow : OpenClaim := { program := "ytknchioabngbiaa", sum := "8c5c1f68f71fec54aea64a038373459d19a12d2f75c37b39b87c3ce519a1e38c", func := "sackbut/sackbutlaw05.RowsClosed", spec := "rowsClosed", unfollowed := true, recurses := true, apart := false, narrowed := true }
def RowsClosedUptoSaid : Prop := rowsClosedUptoRow.holds Try.pinned (OpenSpec.upto rowsClosedSpec)

end Rows
end Go.Proofs.Ytknchioabngbiaa
