/-
  No cell of these rows narrows 'for every input' (looked for: loops, veiled, ifaces, maps, wideKeys, modest, calm, conditions, laid).
  DERIVED. THE GIVEN ROWS OF THIS SEAT. 3 by the template 'for every input the law returns true; each argument reads behind the call as it read before'; 0 by the template 'total and deterministic' (their statements: YtnjmiodnkjabgaaTotals.lean).
  GIVEN WITH THE SEED: the statements are not yours to turn. If you find one false, say at which input.
  Laid BY PROGRAM, IN A SANDBOX (cutbox-rows.mjs): the forced cells as the released guide's own fill.sh prints them over the translation bdba35181d3a47be… (all of the seat's roots in one cut). By AI agents, Wed Nov 11 2026. No macro, syntax, notation, axiom, sorry.
-/
import Derived.Test.YtnjmiodnkjabgaaChecked
import GoSem.Claim
import GoSem.ClaimJoined
import GoSem.ClaimMapViews
import Derived.JoinedTies
import Derived.KernelRfl
namespace Go.Proofs.Ytnjmiodnkjabgaa
/- THE CELL 'sum', in the pinned program and in every row, IS THE sha256 OF THE DUMP (.gsa) THAT YtnjmiodnkjabgaaProg.lean LOADS. Nothing in Lean hashes anything: it is a label: what it is worth is what the hold of that sum in a sandbox is worth. -/
noncomputable def Try.pinned : Pinned := { name := "ytnjmiodnkjabgaa", sum := "bdba35181d3a47beb7fab20fd09432291bbe8f95088774190cf62312e8242750", checked := Try.checked }
namespace Rows
def none {H : Type} : Left H := { results := [], args := [] }

/-- 'sackbutlaw01.ChordsOthers': WHATEVER THE INPUT: true; the input reads as it did. -/
def chordsOthersSpec : ChangeSpec := { name := "chordsOthers", fn := fun _ => fun
  | [d1, d2] => { results := [.lit (.bool true)], args := [d1, d2] }
  | _ => none }
def chordsOthersRow : OpenClaim := { program := "ytnjmiodnkjabgaa", sum := "bdba35181d3a47beb7fab20fd09432291bbe8f95088774190cf62312e8242750", func := "sackbut/sackbutlaw01.ChordsOthers", spec := "chordsOthers", unfollowed := true, recurses := true, apart := false }
def ChordsOthersSaid : Prop := chordsOthersRow.holds Try.pinned (OpenSpec.ofChange chordsOthersSpec)

/-- ITS FALSE NEIGHBOUR: 'it returns false'. Refute it at one input. -/
def chordsOthersWrong : ChangeSpec := { name := "chordsOthers", fn := fun _ => fun
  | [d1, d2] => { results := [.lit (.bool false)], args := [d1, d2] }
  | _ => none }
def ChordsOthersWrongFalsely : Prop := chordsOthersRow.holds Try.pinned (OpenSpec.ofChange chordsOthersWrong)

/-- 'sackbutlaw01.ChordsSums': WHATEVER THE INPUT: true; the input reads as it did. -/
def chordsSumsSpec : ChangeSpec := { name := "chordsSums", fn := fun _ => fun
  | [d1, d2, d3] => { results := [.lit (.bool true)], args := [d1, d2, d3] }
  | _ => none }
def chordsSumsRow : OpenClaim := { program := "ytnjmiodnkjabgaa", sum := "bdba35181d3a47beb7fab20fd09432291bbe8f95088774190cf62312e8242750", func := "sackbut/sackbutlaw01.ChordsSums", spec := "chordsSums", unfollowed := true, recurses := true, apart := false }
def ChordsSumsSaid : Prop := chordsSumsRow.holds Try.pinned (OpenSpec.ofChange chordsSumsSpec)

/-- ITS FALSE NEIGHBOUR: 'it returns false'. Refute it at one input. -/
def chordsSumsWrong : ChangeSpec := { name := "chordsSums", fn := fun _ => fun
  | [d1, d2, d3] => { results := [.lit (.bool false)], args := [d1, d2, d3] }
  | _ => none }
def ChordsSumsWrongFalsely : Prop := chordsSumsRow.holds Try.pinned (OpenSpec.ofChange chordsSumsWrong)

/-- 'sackbutlaw01.ChordsVectors': WHATEVER THE INPUT: true; the input reads as it did. -/
def chordsVectorsSpec : ChangeSpec := { name := "chordsVectors", fn := fun _ => fun
  | [d1, d2] => { results := [.lit (.bool true)], args := [d1, d2] }
  | _ => none }
def chordsVectorsRow : OpenClaim := { program := "ytnjmiodnkjabgaa", sum := "bdba35181d3a47beb7fab20fd09432291bbe8f95088774190cf62312e8242750", func := "sackbut/sackbutlaw01.ChordsVectors", spec := "chordsVectors", unfollowed := true, recurses := true, apart := false }
def ChordsVectorsSaid : Prop := chordsVectorsRow.holds Try.pinned (OpenSpec.ofChange chordsVectorsSpec)

/-- ITS FALSE NEIGHBOUR: 'it returns false'. Refute it at one input. -/
def chordsVectorsWrong : ChangeSpec := { name := "chordsVectors", fn := fun _ => fun
  | [d1, d2] => { results := [.lit (.bool false)], args := [d1, d2] }
  | _ => none }
def ChordsVectorsWrongFalsely : Prop := chordsVectorsRow.holds Try.pinned (OpenSpec.ofChange chordsVectorsWrong)

/- THE SECOND FORM. 'bulk': how many values and letters a reading holds, each counted each time it is reached (what is shared counts as often as it is met; a slice's spare places count too). A statement '..UptoSaid' is the law's where the arguments, and the package variables that the reading takes, are together of bulk at most 1048576: NARROWER than '..Said'. Prove '..Said' where nothing that the law and all that it calls make is longer than what came in: it says more and counts as full. Else prove '..UptoSaid'. A law counts once. -/
mutual
def uptoBulk {H : Type} : DataW H → Nat
  | .lit (.string bytes) => bytes.length + 1
  | .lit _ => 1
  | .nil => 1
  | .ptr d => uptoBulk d + 1
  | .slice elems spare => uptoBulkAll elems + uptoBulkAll spare + 1
  | .agg parts => uptoBulkAll parts + 1
  | .iface _ d => uptoBulk d + 1
  | .map entries => uptoBulkEntries entries + 1
  | .held _ => 1
def uptoBulkAll {H : Type} : List (DataW H) → Nat
  | [] => 0
  | d :: r => uptoBulk d + uptoBulkAll r
def uptoBulkEntries {H : Type} : List (Lit × DataW H) → Nat
  | [] => 0
  | x :: r => uptoBulkEntry x + uptoBulkEntries r
def uptoBulkEntry {H : Type} : Lit × DataW H → Nat
  | (.string bytes, d) => bytes.length + uptoBulk d + 1
  | (_, d) => uptoBulk d + 1
 end
def uptoSmall : (H : Type) → List (DataW H) → Bool := fun _ ds => decide (uptoBulkAll ds ≤ 1048576)
def OpenSpec.upto (s : _root_.Go.ChangeSpec) : _root_.Go.OpenSpec := { _root_.Go.OpenSpec.ofChange s with cond := some uptoSmall }

/-- 'sackbutlaw01.ChordsOthers', WHERE WHAT IT READS IS OF BULK AT MOST 1048576: true; the input reads as it did. -/
def chordsOthersUptoRow : OpenClaim := { program := "ytnjmiodnkjabgaa", sum := "bdba35181d3a47beb7fab20fd09432291bbe8f95088774190cf62312e8242750", func := "sackbut/sackbutlaw01.ChordsOthers", spec := "chordsOthers", unfollowed := true, recurses := true, apart := false, narrowed := true }
def ChordsOthersUptoSaid : Prop := chordsOthersUptoRow.holds Try.pinned (OpenSpec.upto chordsOthersSpec)

/-- 'sackbutlaw01.ChordsSums', WHERE WHAT IT READS IS OF BULK AT MOST 1048576: true; the input reads as it did. -/
def chordsSumsUptoRow : OpenClaim := { program := "ytnjmiodnkjabgaa", sum := "bdba35181d3a47beb7fab20fd09432291bbe8f95088774190cf62312e8242750", func := "sackbut/sackbutlaw01.ChordsSums", spec := "chordsSums", unfollowed := true, recurses := true, apart := false, narrowed := true }
def ChordsSumsUptoSaid : Prop := chordsSumsUptoRow.holds Try.pinned (OpenSpec.upto chordsSumsSpec)

/-- 'sackbutlaw01.ChordsVectors', WHERE WHAT IT READS IS OF BULK AT MOST 1048576: true; the input reads as it did. -/
def chordsVectorsUptoRow : OpenClaim := { program := "ytnjmiodnkjabgaa", sum := "bdba35181d3a47beb7fab20fd09432291bbe8f95088774190cf62312e8242750", func := "sackbut/sackbutlaw01.ChordsVectors", spec := "chordsVectors", unfollowed := true, recurses := true, apart := false, narrowed := true }
def ChordsVectorsUptoSaid : Prop := chordsVectorsUptoRow.holds Try.pinned (OpenSpec.upto chordsVectorsSpec)

end Rows
end Go.Proofs.Ytnjmiodnkjabgaa
