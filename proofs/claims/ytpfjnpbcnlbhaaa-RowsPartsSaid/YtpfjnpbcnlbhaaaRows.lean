/-
  No cell of these rows narrows 'for every input' (looked for: loops, veiled, ifaces, maps, wideKeys, modest, calm, conditions, laid).
  DERIVED. THE GIVEN ROWS OF THIS SEAT. 12 by the template 'for every input the law returns true; each argument reads behind the call as it read before'; 0 by the template 'total and deterministic' (their statements: YtpfjnpbcnlbhaaaTotals.lean).
  GIVEN WITH THE SEED: the statements are not yours to turn. If you find one false, say at which input.
  Laid BY PROGRAM, IN A SANDBOX (cutbox-rows.mjs): the forced cells as the released guide's own fill.sh prints them over the translation 55147013f987a7a8… (all of the seat's roots in one cut). By AI agents, Wed Nov 11 2026. No macro, syntax, notation, axiom, sorry.
-/
import Derived.Test.YtpfjnpbcnlbhaaaChecked
import GoSem.Claim
import GoSem.ClaimJoined
import GoSem.ClaimMapViews
import Derived.JoinedTies
import Derived.KernelRfl
namespace Go.Proofs.Ytpfjnpbcnlbhaaa
/- THE CELL 'sum', in the pinned program and in every row, IS THE sha256 OF THE DUMP (.gsa) THAT YtpfjnpbcnlbhaaaProg.lean LOADS. Nothing in Lean hashes anything: it is a label: what it is worth is what the hold of that sum in a sandbox is worth. -/
noncomputable def Try.pinned : Pinned := { name := "ytpfjnpbcnlbhaaa", sum := "55147013f987a7a848cffcc81a7e76632f5f076f87faf7d613cd5d0dbe4dc26d", checked := Try.checked }
namespace Rows
def none {H : Type} : Left H := { results := [], args := [] }

/-- 'sackbutlaw05.RowsSteps': WHATEVER THE INPUT: true; the input reads as it did. -/
def rowsStepsSpec : ChangeSpec := { name := "rowsSteps", fn := fun _ => fun
  | [d] => { results := [.lit (.bool true)], args := [d] }
  | _ => none }
def rowsStepsRow : OpenClaim := { program := "ytpfjnpbcnlbhaaa", sum := "55147013f987a7a848cffcc81a7e76632f5f076f87faf7d613cd5d0dbe4dc26d", func := "sackbut/sackbutlaw05.RowsSteps", spec := "rowsSteps", apart := false }
def RowsStepsSaid : Prop := rowsStepsRow.holds Try.pinned (OpenSpec.ofChange rowsStepsSpec)

/-- ITS FALSE NEIGHBOUR: 'it returns false'. Refute it at one input. -/
def rowsStepsWrong : ChangeSpec := { name := "rowsSteps", fn := fun _ => fun
  | [d] => { results := [.lit (.bool false)], args := [d] }
  | _ => none }
def RowsStepsWrongFalsely : Prop := rowsStepsRow.holds Try.pinned (OpenSpec.ofChange rowsStepsWrong)

/-- 'sackbutlaw05.RowsFollows': WHATEVER THE INPUT: true; the input reads as it did. -/
def rowsFollowsSpec : ChangeSpec := { name := "rowsFollows", fn := fun _ => fun
  | [d1, d2] => { results := [.lit (.bool true)], args := [d1, d2] }
  | _ => none }
def rowsFollowsRow : OpenClaim := { program := "ytpfjnpbcnlbhaaa", sum := "55147013f987a7a848cffcc81a7e76632f5f076f87faf7d613cd5d0dbe4dc26d", func := "sackbut/sackbutlaw05.RowsFollows", spec := "rowsFollows", apart := false }
def RowsFollowsSaid : Prop := rowsFollowsRow.holds Try.pinned (OpenSpec.ofChange rowsFollowsSpec)

/-- ITS FALSE NEIGHBOUR: 'it returns false'. Refute it at one input. -/
def rowsFollowsWrong : ChangeSpec := { name := "rowsFollows", fn := fun _ => fun
  | [d1, d2] => { results := [.lit (.bool false)], args := [d1, d2] }
  | _ => none }
def RowsFollowsWrongFalsely : Prop := rowsFollowsRow.holds Try.pinned (OpenSpec.ofChange rowsFollowsWrong)

/-- 'sackbutlaw05.RowsWays': WHATEVER THE INPUT: true; the input reads as it did. -/
def rowsWaysSpec : ChangeSpec := { name := "rowsWays", fn := fun _ => fun
  | [d1, d2] => { results := [.lit (.bool true)], args := [d1, d2] }
  | _ => none }
def rowsWaysRow : OpenClaim := { program := "ytpfjnpbcnlbhaaa", sum := "55147013f987a7a848cffcc81a7e76632f5f076f87faf7d613cd5d0dbe4dc26d", func := "sackbut/sackbutlaw05.RowsWays", spec := "rowsWays", unfollowed := true, recurses := true, apart := false }
def RowsWaysSaid : Prop := rowsWaysRow.holds Try.pinned (OpenSpec.ofChange rowsWaysSpec)

/-- ITS FALSE NEIGHBOUR: 'it returns false'. Refute it at one input. -/
def rowsWaysWrong : ChangeSpec := { name := "rowsWays", fn := fun _ => fun
  | [d1, d2] => { results := [.lit (.bool false)], args := [d1, d2] }
  | _ => none }
def RowsWaysWrongFalsely : Prop := rowsWaysRow.holds Try.pinned (OpenSpec.ofChange rowsWaysWrong)

/-- 'sackbutlaw05.RowsWith': WHATEVER THE INPUT: true; the input reads as it did. -/
def rowsWithSpec : ChangeSpec := { name := "rowsWith", fn := fun _ => fun
  | [d] => { results := [.lit (.bool true)], args := [d] }
  | _ => none }
def rowsWithRow : OpenClaim := { program := "ytpfjnpbcnlbhaaa", sum := "55147013f987a7a848cffcc81a7e76632f5f076f87faf7d613cd5d0dbe4dc26d", func := "sackbut/sackbutlaw05.RowsWith", spec := "rowsWith", unfollowed := true, recurses := true, apart := false }
def RowsWithSaid : Prop := rowsWithRow.holds Try.pinned (OpenSpec.ofChange rowsWithSpec)

/-- ITS FALSE NEIGHBOUR: 'it returns false'. Refute it at one input. -/
def rowsWithWrong : ChangeSpec := { name := "rowsWith", fn := fun _ => fun
  | [d] => { results := [.lit (.bool false)], args := [d] }
  | _ => none }
def RowsWithWrongFalsely : Prop := rowsWithRow.holds Try.pinned (OpenSpec.ofChange rowsWithWrong)

/-- 'sackbutlaw05.RowsBehind': WHATEVER THE INPUT: true; the input reads as it did. -/
def rowsBehindSpec : ChangeSpec := { name := "rowsBehind", fn := fun _ => fun
  | [d1, d2] => { results := [.lit (.bool true)], args := [d1, d2] }
  | _ => none }
def rowsBehindRow : OpenClaim := { program := "ytpfjnpbcnlbhaaa", sum := "55147013f987a7a848cffcc81a7e76632f5f076f87faf7d613cd5d0dbe4dc26d", func := "sackbut/sackbutlaw05.RowsBehind", spec := "rowsBehind", apart := false }
def RowsBehindSaid : Prop := rowsBehindRow.holds Try.pinned (OpenSpec.ofChange rowsBehindSpec)

/-- ITS FALSE NEIGHBOUR: 'it returns false'. Refute it at one input. -/
def rowsBehindWrong : ChangeSpec := { name := "rowsBehind", fn := fun _ => fun
  | [d1, d2] => { results := [.lit (.bool false)], args := [d1, d2] }
  | _ => none }
def RowsBehindWrongFalsely : Prop := rowsBehindRow.holds Try.pinned (OpenSpec.ofChange rowsBehindWrong)

/-- 'sackbutlaw05.RowsHalves': WHATEVER THE INPUT: true; the input reads as it did. -/
def rowsHalvesSpec : ChangeSpec := { name := "rowsHalves", fn := fun _ => fun
  | [d] => { results := [.lit (.bool true)], args := [d] }
  | _ => none }
def rowsHalvesRow : OpenClaim := { program := "ytpfjnpbcnlbhaaa", sum := "55147013f987a7a848cffcc81a7e76632f5f076f87faf7d613cd5d0dbe4dc26d", func := "sackbut/sackbutlaw05.RowsHalves", spec := "rowsHalves", apart := false }
def RowsHalvesSaid : Prop := rowsHalvesRow.holds Try.pinned (OpenSpec.ofChange rowsHalvesSpec)

/-- ITS FALSE NEIGHBOUR: 'it returns false'. Refute it at one input. -/
def rowsHalvesWrong : ChangeSpec := { name := "rowsHalves", fn := fun _ => fun
  | [d] => { results := [.lit (.bool false)], args := [d] }
  | _ => none }
def RowsHalvesWrongFalsely : Prop := rowsHalvesRow.holds Try.pinned (OpenSpec.ofChange rowsHalvesWrong)

/-- 'sackbutlaw05.RowsFills': WHATEVER THE INPUT: true; the input reads as it did. -/
def rowsFillsSpec : ChangeSpec := { name := "rowsFills", fn := fun _ => fun
  | [d1, d2] => { results := [.lit (.bool true)], args := [d1, d2] }
  | _ => none }
def rowsFillsRow : OpenClaim := { program := "ytpfjnpbcnlbhaaa", sum := "55147013f987a7a848cffcc81a7e76632f5f076f87faf7d613cd5d0dbe4dc26d", func := "sackbut/sackbutlaw05.RowsFills", spec := "rowsFills", unfollowed := true, recurses := true, apart := false }
def RowsFillsSaid : Prop := rowsFillsRow.holds Try.pinned (OpenSpec.ofChange rowsFillsSpec)

/-- ITS FALSE NEIGHBOUR: 'it returns false'. Refute it at one input. -/
def rowsFillsWrong : ChangeSpec := { name := "rowsFills", fn := fun _ => fun
  | [d1, d2] => { results := [.lit (.bool false)], args := [d1, d2] }
  | _ => none }
def RowsFillsWrongFalsely : Prop := rowsFillsRow.holds Try.pinned (OpenSpec.ofChange rowsFillsWrong)

/-- 'sackbutlaw05.RowsHalf': WHATEVER THE INPUT: true; the input reads as it did. -/
def rowsHalfSpec : ChangeSpec := { name := "rowsHalf", fn := fun _ => fun
  | [d1, d2] => { results := [.lit (.bool true)], args := [d1, d2] }
  | _ => none }
def rowsHalfRow : OpenClaim := { program := "ytpfjnpbcnlbhaaa", sum := "55147013f987a7a848cffcc81a7e76632f5f076f87faf7d613cd5d0dbe4dc26d", func := "sackbut/sackbutlaw05.RowsHalf", spec := "rowsHalf", apart := false }
def RowsHalfSaid : Prop := rowsHalfRow.holds Try.pinned (OpenSpec.ofChange rowsHalfSpec)

/-- ITS FALSE NEIGHBOUR: 'it returns false'. Refute it at one input. -/
def rowsHalfWrong : ChangeSpec := { name := "rowsHalf", fn := fun _ => fun
  | [d1, d2] => { results := [.lit (.bool false)], args := [d1, d2] }
  | _ => none }
def RowsHalfWrongFalsely : Prop := rowsHalfRow.holds Try.pinned (OpenSpec.ofChange rowsHalfWrong)

/-- 'sackbutlaw05.RowsMade': WHATEVER THE INPUT: true; the input reads as it did. -/
def rowsMadeSpec : ChangeSpec := { name := "rowsMade", fn := fun _ => fun
  | [d1, d2] => { results := [.lit (.bool true)], args := [d1, d2] }
  | _ => none }
def rowsMadeRow : OpenClaim := { program := "ytpfjnpbcnlbhaaa", sum := "55147013f987a7a848cffcc81a7e76632f5f076f87faf7d613cd5d0dbe4dc26d", func := "sackbut/sackbutlaw05.RowsMade", spec := "rowsMade", unfollowed := true, recurses := true, apart := false }
def RowsMadeSaid : Prop := rowsMadeRow.holds Try.pinned (OpenSpec.ofChange rowsMadeSpec)

/-- ITS FALSE NEIGHBOUR: 'it returns false'. Refute it at one input. -/
def rowsMadeWrong : ChangeSpec := { name := "rowsMade", fn := fun _ => fun
  | [d1, d2] => { results := [.lit (.bool false)], args := [d1, d2] }
  | _ => none }
def RowsMadeWrongFalsely : Prop := rowsMadeRow.holds Try.pinned (OpenSpec.ofChange rowsMadeWrong)

/-- 'sackbutlaw05.RowsParts': WHATEVER THE INPUT: true; the input reads as it did. -/
def rowsPartsSpec : ChangeSpec := { name := "rowsParts", fn := fun _ => fun
  | [d1, d2, d3, d4] => { results := [.lit (.bool true)], args := [d1, d2, d3, d4] }
  | _ => none }
def rowsPartsRow : OpenClaim := { program := "ytpfjnpbcnlbhaaa", sum := "55147013f987a7a848cffcc81a7e76632f5f076f87faf7d613cd5d0dbe4dc26d", func := "sackbut/sackbutlaw05.RowsParts", spec := "rowsParts", unfollowed := true, recurses := true, apart := false }
def RowsPartsSaid : Prop := rowsPartsRow.holds Try.pinned (OpenSpec.ofChange rowsPartsSpec)

/-- ITS FALSE NEIGHBOUR: 'it returns false'. Refute it at one input. -/
def rowsPartsWrong : ChangeSpec := { name := "rowsParts", fn := fun _ => fun
  | [d1, d2, d3, d4] => { results := [.lit (.bool false)], args := [d1, d2, d3, d4] }
  | _ => none }
def RowsPartsWrongFalsely : Prop := rowsPartsRow.holds Try.pinned (OpenSpec.ofChange rowsPartsWrong)

/-- 'sackbutlaw05.RowsBegins': WHATEVER THE INPUT: true; the input reads as it did. -/
def rowsBeginsSpec : ChangeSpec := { name := "rowsBegins", fn := fun _ => fun
  | [d1, d2] => { results := [.lit (.bool true)], args := [d1, d2] }
  | _ => none }
def rowsBeginsRow : OpenClaim := { program := "ytpfjnpbcnlbhaaa", sum := "55147013f987a7a848cffcc81a7e76632f5f076f87faf7d613cd5d0dbe4dc26d", func := "sackbut/sackbutlaw05.RowsBegins", spec := "rowsBegins", unfollowed := true, recurses := true, apart := false }
def RowsBeginsSaid : Prop := rowsBeginsRow.holds Try.pinned (OpenSpec.ofChange rowsBeginsSpec)

/-- ITS FALSE NEIGHBOUR: 'it returns false'. Refute it at one input. -/
def rowsBeginsWrong : ChangeSpec := { name := "rowsBegins", fn := fun _ => fun
  | [d1, d2] => { results := [.lit (.bool false)], args := [d1, d2] }
  | _ => none }
def RowsBeginsWrongFalsely : Prop := rowsBeginsRow.holds Try.pinned (OpenSpec.ofChange rowsBeginsWrong)

/-- 'sackbutlaw05.RowsCounts': WHATEVER THE INPUT: true; the input reads as it did. -/
def rowsCountsSpec : ChangeSpec := { name := "rowsCounts", fn := fun _ => fun
  | [d] => { results := [.lit (.bool true)], args := [d] }
  | _ => none }
def rowsCountsRow : OpenClaim := { program := "ytpfjnpbcnlbhaaa", sum := "55147013f987a7a848cffcc81a7e76632f5f076f87faf7d613cd5d0dbe4dc26d", func := "sackbut/sackbutlaw05.RowsCounts", spec := "rowsCounts", unfollowed := true, recurses := true, apart := false }
def RowsCountsSaid : Prop := rowsCountsRow.holds Try.pinned (OpenSpec.ofChange rowsCountsSpec)

/-- ITS FALSE NEIGHBOUR: 'it returns false'. Refute it at one input. -/
def rowsCountsWrong : ChangeSpec := { name := "rowsCounts", fn := fun _ => fun
  | [d] => { results := [.lit (.bool false)], args := [d] }
  | _ => none }
def RowsCountsWrongFalsely : Prop := rowsCountsRow.holds Try.pinned (OpenSpec.ofChange rowsCountsWrong)

/- THE SECOND FORM. 'bulk': how many values and letters a reading holds, each counted each time it is reached (what is shared counts as often as it is met; a slice's spare places count too). A statement '..UptoSaid' is the law's where the arguments, and the package variables that the reading takes, are together of bulk at most 1048576: NARROWER than '..Said'. Prove '..Said' where nothing that the law and all that it calls make is longer than what came in: it says more and counts as full. Else prove '..UptoSaid'. A law counts once. -/
mutual
def uptoBulk {H : Type} : DataW H → Nat
  | .lit (.string bytes) => bytes.length + 1
  | .lit _ => 1
  | .nil => 1
  | .ptr d => uptoBulk d + 1
  | .slice elems spare => uptoBulkAll elems + uptoBulkAll spare + 1
  | .agg parts => uptoBulkAll parts + 1
  | .iface _ d => uptoBulk d + 1
  | .map entries => uptoBulkEntries entries + 1
  | .held _ => 1
def uptoBulkAll {H : Type} : List (DataW H) → Nat
  | [] => 0
  | d :: r => uptoBulk d + uptoBulkAll r
def uptoBulkEntries {H : Type} : List (Lit × DataW H) → Nat
  | [] => 0
  | x :: r => uptoBulkEntry x + uptoBulkEntries r
def uptoBulkEntry {H : Type} : Lit × DataW H → Nat
  | (.string bytes, d) => bytes.length + uptoBulk d + 1
  | (_, d) => uptoBulk d + 1
 end
def uptoSmall : (H : Type) → List (DataW H) → Bool := fun _ ds => decide (uptoBulkAll ds ≤ 1048576)
def OpenSpec.upto (s : _root_.Go.ChangeSpec) : _root_.Go.OpenSpec := { _root_.Go.OpenSpec.ofChange s with cond := some uptoSmall }

/-- 'sackbutlaw05.RowsSteps', WHERE WHAT IT READS IS OF BULK AT MOST 1048576: true; the input reads as it did. -/
def rowsStepsUptoRow : OpenClaim := { program := "ytpfjnpbcnlbhaaa", sum := "55147013f987a7a848cffcc81a7e76632f5f076f87faf7d613cd5d0dbe4dc26d", func := "sackbut/sackbutlaw05.RowsSteps", spec := "rowsSteps", apart := false, narrowed := true }
def RowsStepsUptoSaid : Prop := rowsStepsUptoRow.holds Try.pinned (OpenSpec.upto rowsStepsSpec)

/-- 'sackbutlaw05.RowsFollows', WHERE WHAT IT READS IS OF BULK AT MOST 1048576: true; the input reads as it did. -/
def rowsFollowsUptoRow : OpenClaim := { program := "ytpfjnpbcnlbhaaa", sum := "55147013f987a7a848cffcc81a7e76632f5f076f87faf7d613cd5d0dbe4dc26d", func := "sackbut/sackbutlaw05.RowsFollows", spec := "rowsFollows", apart := false, narrowed := true }
def RowsFollowsUptoSaid : Prop := rowsFollowsUptoRow.holds Try.pinned (OpenSpec.upto rowsFollowsSpec)

/-- 'sackbutlaw05.RowsWays', WHERE WHAT IT READS IS OF BULK AT MOST 1048576: true; the input reads as it did. -/
def rowsWaysUptoRow : OpenClaim := { program := "ytpfjnpbcnlbhaaa", sum := "55147013f987a7a848cffcc81a7e76632f5f076f87faf7d613cd5d0dbe4dc26d", func := "sackbut/sackbutlaw05.RowsWays", spec := "rowsWays", unfollowed := true, recurses := true, apart := false, narrowed := true }
def RowsWaysUptoSaid : Prop := rowsWaysUptoRow.holds Try.pinned (OpenSpec.upto rowsWaysSpec)

/-- 'sackbutlaw05.RowsWith', WHERE WHAT IT READS IS OF BULK AT MOST 1048576: true; the input reads as it did. -/
def rowsWithUptoRow : OpenClaim := { program := "ytpfjnpbcnlbhaaa", sum := "55147013f987a7a848cffcc81a7e76632f5f076f87faf7d613cd5d0dbe4dc26d", func := "sackbut/sackbutlaw05.RowsWith", spec := "rowsWith", unfollowed := true, recurses := true, apart := false, narrowed := true }
def RowsWithUptoSaid : Prop := rowsWithUptoRow.holds Try.pinned (OpenSpec.upto rowsWithSpec)

/-- 'sackbutlaw05.RowsBehind', WHERE WHAT IT READS IS OF BULK AT MOST 1048576: true; the input reads as it did. -/
def rowsBehindUptoRow : OpenClaim := { program := "ytpfjnpbcnlbhaaa", sum := "55147013f987a7a848cffcc81a7e76632f5f076f87faf7d613cd5d0dbe4dc26d", func := "sackbut/sackbutlaw05.RowsBehind", spec := "rowsBehind", apart := false, narrowed := true }
def RowsBehindUptoSaid : Prop := rowsBehindUptoRow.holds Try.pinned (OpenSpec.upto rowsBehindSpec)

/-- 'sackbutlaw05.RowsHalves', WHERE WHAT IT READS IS OF BULK AT MOST 1048576: true; the input reads as it did. -/
def rowsHalvesUptoRow : OpenClaim := { program := "ytpfjnpbcnlbhaaa", sum := "55147013f987a7a848cffcc81a7e76632f5f076f87faf7d613cd5d0dbe4dc26d", func := "sackbut/sackbutlaw05.RowsHalves", spec := "rowsHalves", apart := false, narrowed := true }
def RowsHalvesUptoSaid : Prop := rowsHalvesUptoRow.holds Try.pinned (OpenSpec.upto rowsHalvesSpec)

/-- 'sackbutlaw05.RowsFills', WHERE WHAT IT READS IS OF BULK AT MOST 1048576: true; the input reads as it did. -/
def rowsFillsUptoRow : OpenClaim := { program := "ytpfjnpbcnlbhaaa", sum := "55147013f987a7a848cffcc81a7e76632f5f076f87faf7d613cd5d0dbe4dc26d", func := "sackbut/sackbutlaw05.RowsFills", spec := "rowsFills", unfollowed := true, recurses := true, apart := false, narrowed := true }
def RowsFillsUptoSaid : Prop := rowsFillsUptoRow.holds Try.pinned (OpenSpec.upto rowsFillsSpec)

/-- 'sackbutlaw05.RowsHalf', WHERE WHAT IT READS IS OF BULK AT MOST 1048576: true; the input reads as it did. -/
def rowsHalfUptoRow : OpenClaim := { program := "ytpfjnpbcnlbhaaa", sum := "55147013f987a7a848cffcc81a7e76632f5f076f87faf7d613cd5d0dbe4dc26d", func := "sackbut/sackbutlaw05.RowsHalf", spec := "rowsHalf", apart := false, narrowed := true }
def RowsHalfUptoSaid : Prop := rowsHalfUptoRow.holds Try.pinned (OpenSpec.upto rowsHalfSpec)

/-- 'sackbutlaw05.RowsMade', WHERE WHAT IT READS IS OF BULK AT MOST 1048576: true; the input reads as it did. -/
def rowsMadeUptoRow : OpenClaim := { program := "ytpfjnpbcnlbhaaa", sum := "55147013f987a7a848cffcc81a7e76632f5f076f87faf7d613cd5d0dbe4dc26d", func := "sackbut/sackbutlaw05.RowsMade", spec := "rowsMade", unfollowed := true, recurses := true, apart := false, narrowed := true }
def RowsMadeUptoSaid : Prop := rowsMadeUptoRow.holds Try.pinned (OpenSpec.upto rowsMadeSpec)

/-- 'sackbutlaw05.RowsParts', WHERE WHAT IT READS IS OF BULK AT MOST 1048576: true; the input reads as it did. -/
def rowsPartsUptoRow : OpenClaim := { program := "ytpfjnpbcnlbhaaa", sum := "55147013f987a7a848cffcc81a7e76632f5f076f87faf7d613cd5d0dbe4dc26d", func := "sackbut/sackbutlaw05.RowsParts", spec := "rowsParts", unfollowed := true, recurses := true, apart := false, narrowed := true }
def RowsPartsUptoSaid : Prop := rowsPartsUptoRow.holds Try.pinned (OpenSpec.upto rowsPartsSpec)

/-- 'sackbutlaw05.RowsBegins', WHERE WHAT IT READS IS OF BULK AT MOST 1048576: true; the input reads as it did. -/
def rowsBeginsUptoRow : OpenClaim := { program := "ytpfjnpbcnlbhaaa", sum := "55147013f987a7a848cffcc81a7e76632f5f076f87faf7d613cd5d0dbe4dc26d", func := "sackbut/sackbutlaw05.RowsBegins", spec := "rowsBegins", unfollowed := true, recurses := true, apart := false, narrowed := true }
def RowsBeginsUptoSaid : Prop := rowsBeginsUptoRow.holds Try.pinned (OpenSpec.upto rowsBeginsSpec)

/-- 'sackbutlaw05.RowsCounts', WHERE WHAT IT READS IS OF BULK AT MOST 1048576: true; the input reads as it did. -/
def rowsCountsUptoRow : OpenClaim := { program := "ytpfjnpbcnlbhaaa", sum := "55147013f987a7a848cffcc81a7e76632f5f076f87faf7d613cd5d0dbe4dc26d", func := "sackbut/sackbutlaw05.RowsCounts", spec := "rowsCounts", unfollowed := true, recurses := true, apart := false, narrowed := true }
def RowsCountsUptoSaid : Prop := rowsCountsUptoRow.holds Try.pinned (OpenSpec.upto rowsCountsSpec)

end Rows
end Go.Proofs.Ytpfjnpbcnlbhaaa
