/-
  NARROWER THAN 'FOR EVERY INPUT', by the rows' own cells (each row's printed sentence says how): ChordsStill: laid · ChordsMoves: laid · ChordsTimes: laid · ChordsWays: laid · ChordsPrimes: laid · ChordsCounts: laid · ChordsImages: laid · ChordsLists: laid · ChordsTwins: laid.
  DERIVED. THE GIVEN ROWS OF THIS SEAT. 9 by the template 'for every input the law returns true; each argument reads behind the call as it read before'; 0 by the template 'total and deterministic' (their statements: YtnjmiodnkjabgaaDoorTotals.lean).
  GIVEN WITH THE SEED: the statements are not yours to turn. If you find one false, say at which input.
  Laid BY PROGRAM, IN A SANDBOX (cutbox-rows.mjs): the forced cells as the released guide's own fill.sh prints them over the translation d99641794c1f41fb… (all of the seat's roots in one cut). By AI agents, Wed Nov 11 2026. No macro, syntax, notation, axiom, sorry.
-/
import Derived.Test.YtnjmiodnkjabgaaDoorChecked
import GoSem.Claim
import GoSem.ClaimJoined
import GoSem.ClaimMapViews
import Derived.JoinedTies
import Derived.KernelRfl
namespace Go.Proofs.YtnjmiodnkjabgaaDoor
/- THE CELL 'sum', in the pinned program and in every row, IS THE sha256 OF THE DUMP (.gsa) THAT YtnjmiodnkjabgaaDoorProg.lean LOADS. Nothing in Lean hashes anything: it is a label: what it is worth is what the hold of that sum in a sandbox is worth. -/
noncomputable def Tryd.pinned : Pinned := { name := "ytnjmiodnkjabgaadoor", sum := "d99641794c1f41fbd382a1b011f331ced0d082c8c2907ffae25214afa7871295", checked := Tryd.checked }
namespace Rows
def none {H : Type} : Left H := { results := [], args := [] }

/- WHAT THE LISTED PACKAGE-LEVEL VARIABLES READ AS WHEN THE CALL BEGINS. Each datum BY PROGRAM (the guide's laid-datum.mjs) off the statement by which the dump's own 'gosem.cut.vars' lays the variable. In a bare row this is a premise. The card (YtnjmiodnkjabgaaDoorCards.lean) ties it to the program's text. -/
def laid_math_bits_deBruijn32tab {H : Type} : DataW H := .agg [.lit (.int .u8 0), .lit (.int .u8 1), .lit (.int .u8 28), .lit (.int .u8 2), .lit (.int .u8 29), .lit (.int .u8 14), .lit (.int .u8 24), .lit (.int .u8 3), .lit (.int .u8 30), .lit (.int .u8 22), .lit (.int .u8 20), .lit (.int .u8 15), .lit (.int .u8 25), .lit (.int .u8 17), .lit (.int .u8 4), .lit (.int .u8 8), .lit (.int .u8 31), .lit (.int .u8 27), .lit (.int .u8 13), .lit (.int .u8 23), .lit (.int .u8 21), .lit (.int .u8 19), .lit (.int .u8 16), .lit (.int .u8 7), .lit (.int .u8 26), .lit (.int .u8 12), .lit (.int .u8 18), .lit (.int .u8 6), .lit (.int .u8 11), .lit (.int .u8 5), .lit (.int .u8 10), .lit (.int .u8 9)]
def laid_math_bits_deBruijn64tab {H : Type} : DataW H := .agg [.lit (.int .u8 0), .lit (.int .u8 1), .lit (.int .u8 56), .lit (.int .u8 2), .lit (.int .u8 57), .lit (.int .u8 49), .lit (.int .u8 28), .lit (.int .u8 3), .lit (.int .u8 61), .lit (.int .u8 58), .lit (.int .u8 42), .lit (.int .u8 50), .lit (.int .u8 38), .lit (.int .u8 29), .lit (.int .u8 17), .lit (.int .u8 4), .lit (.int .u8 62), .lit (.int .u8 47), .lit (.int .u8 59), .lit (.int .u8 36), .lit (.int .u8 45), .lit (.int .u8 43), .lit (.int .u8 51), .lit (.int .u8 22), .lit (.int .u8 53), .lit (.int .u8 39), .lit (.int .u8 33), .lit (.int .u8 30), .lit (.int .u8 24), .lit (.int .u8 18), .lit (.int .u8 12), .lit (.int .u8 5), .lit (.int .u8 63), .lit (.int .u8 55), .lit (.int .u8 48), .lit (.int .u8 27), .lit (.int .u8 60), .lit (.int .u8 41), .lit (.int .u8 37), .lit (.int .u8 16), .lit (.int .u8 46), .lit (.int .u8 35), .lit (.int .u8 44), .lit (.int .u8 21), .lit (.int .u8 52), .lit (.int .u8 32), .lit (.int .u8 23), .lit (.int .u8 11), .lit (.int .u8 54), .lit (.int .u8 26), .lit (.int .u8 40), .lit (.int .u8 15), .lit (.int .u8 34), .lit (.int .u8 20), .lit (.int .u8 31), .lit (.int .u8 10), .lit (.int .u8 25), .lit (.int .u8 14), .lit (.int .u8 19), .lit (.int .u8 9), .lit (.int .u8 13), .lit (.int .u8 8), .lit (.int .u8 7), .lit (.int .u8 6)]

/-- 'sackbutlaw01.ChordsStill': WHATEVER THE INPUT: true; the input reads as it did. -/
def chordsStillSpec : ChangeSpec := { name := "chordsStill", fn := fun _ => fun
  | [d1, d2] => { results := [.lit (.bool true)], args := [d1, d2] }
  | _ => none }
def chordsStillRow : OpenClaim := { program := "ytnjmiodnkjabgaadoor", sum := "d99641794c1f41fbd382a1b011f331ced0d082c8c2907ffae25214afa7871295", func := "sackbut/sackbutlaw01.ChordsStill", spec := "chordsStill", unfollowed := true, recurses := true, named := ["math/bits.deBruijn32tab", "math/bits.deBruijn64tab"], plainKeys := false, apart := false, laid := [("math/bits.deBruijn32tab", laid_math_bits_deBruijn32tab), ("math/bits.deBruijn64tab", laid_math_bits_deBruijn64tab)] }
def ChordsStillSaid : Prop := chordsStillRow.holds Tryd.pinned (OpenSpec.ofChange chordsStillSpec)

/-- ITS FALSE NEIGHBOUR: 'it returns false'. Refute it at one input. -/
def chordsStillWrong : ChangeSpec := { name := "chordsStill", fn := fun _ => fun
  | [d1, d2] => { results := [.lit (.bool false)], args := [d1, d2] }
  | _ => none }
def ChordsStillWrongFalsely : Prop := chordsStillRow.holds Tryd.pinned (OpenSpec.ofChange chordsStillWrong)

/-- 'sackbutlaw01.ChordsMoves': WHATEVER THE INPUT: true; the input reads as it did. -/
def chordsMovesSpec : ChangeSpec := { name := "chordsMoves", fn := fun _ => fun
  | [d1, d2, d3, d4] => { results := [.lit (.bool true)], args := [d1, d2, d3, d4] }
  | _ => none }
def chordsMovesRow : OpenClaim := { program := "ytnjmiodnkjabgaadoor", sum := "d99641794c1f41fbd382a1b011f331ced0d082c8c2907ffae25214afa7871295", func := "sackbut/sackbutlaw01.ChordsMoves", spec := "chordsMoves", unfollowed := true, recurses := true, named := ["math/bits.deBruijn32tab", "math/bits.deBruijn64tab"], plainKeys := false, apart := false, laid := [("math/bits.deBruijn32tab", laid_math_bits_deBruijn32tab), ("math/bits.deBruijn64tab", laid_math_bits_deBruijn64tab)] }
def ChordsMovesSaid : Prop := chordsMovesRow.holds Tryd.pinned (OpenSpec.ofChange chordsMovesSpec)

/-- ITS FALSE NEIGHBOUR: 'it returns false'. Refute it at one input. -/
def chordsMovesWrong : ChangeSpec := { name := "chordsMoves", fn := fun _ => fun
  | [d1, d2, d3, d4] => { results := [.lit (.bool false)], args := [d1, d2, d3, d4] }
  | _ => none }
def ChordsMovesWrongFalsely : Prop := chordsMovesRow.holds Tryd.pinned (OpenSpec.ofChange chordsMovesWrong)

/-- 'sackbutlaw01.ChordsTimes': WHATEVER THE INPUT: true; the input reads as it did. -/
def chordsTimesSpec : ChangeSpec := { name := "chordsTimes", fn := fun _ => fun
  | [d1, d2, d3] => { results := [.lit (.bool true)], args := [d1, d2, d3] }
  | _ => none }
def chordsTimesRow : OpenClaim := { program := "ytnjmiodnkjabgaadoor", sum := "d99641794c1f41fbd382a1b011f331ced0d082c8c2907ffae25214afa7871295", func := "sackbut/sackbutlaw01.ChordsTimes", spec := "chordsTimes", unfollowed := true, recurses := true, named := ["math/bits.deBruijn32tab", "math/bits.deBruijn64tab"], plainKeys := false, apart := false, laid := [("math/bits.deBruijn32tab", laid_math_bits_deBruijn32tab), ("math/bits.deBruijn64tab", laid_math_bits_deBruijn64tab)] }
def ChordsTimesSaid : Prop := chordsTimesRow.holds Tryd.pinned (OpenSpec.ofChange chordsTimesSpec)

/-- ITS FALSE NEIGHBOUR: 'it returns false'. Refute it at one input. -/
def chordsTimesWrong : ChangeSpec := { name := "chordsTimes", fn := fun _ => fun
  | [d1, d2, d3] => { results := [.lit (.bool false)], args := [d1, d2, d3] }
  | _ => none }
def ChordsTimesWrongFalsely : Prop := chordsTimesRow.holds Tryd.pinned (OpenSpec.ofChange chordsTimesWrong)

/-- 'sackbutlaw01.ChordsWays': WHATEVER THE INPUT: true; the input reads as it did. -/
def chordsWaysSpec : ChangeSpec := { name := "chordsWays", fn := fun _ => fun
  | [d1, d2, d3] => { results := [.lit (.bool true)], args := [d1, d2, d3] }
  | _ => none }
def chordsWaysRow : OpenClaim := { program := "ytnjmiodnkjabgaadoor", sum := "d99641794c1f41fbd382a1b011f331ced0d082c8c2907ffae25214afa7871295", func := "sackbut/sackbutlaw01.ChordsWays", spec := "chordsWays", unfollowed := true, recurses := true, named := ["math/bits.deBruijn32tab", "math/bits.deBruijn64tab"], plainKeys := false, apart := false, laid := [("math/bits.deBruijn32tab", laid_math_bits_deBruijn32tab), ("math/bits.deBruijn64tab", laid_math_bits_deBruijn64tab)] }
def ChordsWaysSaid : Prop := chordsWaysRow.holds Tryd.pinned (OpenSpec.ofChange chordsWaysSpec)

/-- ITS FALSE NEIGHBOUR: 'it returns false'. Refute it at one input. -/
def chordsWaysWrong : ChangeSpec := { name := "chordsWays", fn := fun _ => fun
  | [d1, d2, d3] => { results := [.lit (.bool false)], args := [d1, d2, d3] }
  | _ => none }
def ChordsWaysWrongFalsely : Prop := chordsWaysRow.holds Tryd.pinned (OpenSpec.ofChange chordsWaysWrong)

/-- 'sackbutlaw01.ChordsPrimes': WHATEVER THE INPUT: true; the input reads as it did. -/
def chordsPrimesSpec : ChangeSpec := { name := "chordsPrimes", fn := fun _ => fun
  | [d1, d2] => { results := [.lit (.bool true)], args := [d1, d2] }
  | _ => none }
def chordsPrimesRow : OpenClaim := { program := "ytnjmiodnkjabgaadoor", sum := "d99641794c1f41fbd382a1b011f331ced0d082c8c2907ffae25214afa7871295", func := "sackbut/sackbutlaw01.ChordsPrimes", spec := "chordsPrimes", unfollowed := true, recurses := true, named := ["math/bits.deBruijn32tab", "math/bits.deBruijn64tab"], plainKeys := false, apart := false, laid := [("math/bits.deBruijn32tab", laid_math_bits_deBruijn32tab), ("math/bits.deBruijn64tab", laid_math_bits_deBruijn64tab)] }
def ChordsPrimesSaid : Prop := chordsPrimesRow.holds Tryd.pinned (OpenSpec.ofChange chordsPrimesSpec)

/-- ITS FALSE NEIGHBOUR: 'it returns false'. Refute it at one input. -/
def chordsPrimesWrong : ChangeSpec := { name := "chordsPrimes", fn := fun _ => fun
  | [d1, d2] => { results := [.lit (.bool false)], args := [d1, d2] }
  | _ => none }
def ChordsPrimesWrongFalsely : Prop := chordsPrimesRow.holds Tryd.pinned (OpenSpec.ofChange chordsPrimesWrong)

/-- 'sackbutlaw01.ChordsCounts': WHATEVER THE INPUT: true; the input reads as it did. -/
def chordsCountsSpec : ChangeSpec := { name := "chordsCounts", fn := fun _ => fun
  | [d1, d2] => { results := [.lit (.bool true)], args := [d1, d2] }
  | _ => none }
def chordsCountsRow : OpenClaim := { program := "ytnjmiodnkjabgaadoor", sum := "d99641794c1f41fbd382a1b011f331ced0d082c8c2907ffae25214afa7871295", func := "sackbut/sackbutlaw01.ChordsCounts", spec := "chordsCounts", unfollowed := true, recurses := true, named := ["math/bits.deBruijn32tab", "math/bits.deBruijn64tab"], plainKeys := false, apart := false, laid := [("math/bits.deBruijn32tab", laid_math_bits_deBruijn32tab), ("math/bits.deBruijn64tab", laid_math_bits_deBruijn64tab)] }
def ChordsCountsSaid : Prop := chordsCountsRow.holds Tryd.pinned (OpenSpec.ofChange chordsCountsSpec)

/-- ITS FALSE NEIGHBOUR: 'it returns false'. Refute it at one input. -/
def chordsCountsWrong : ChangeSpec := { name := "chordsCounts", fn := fun _ => fun
  | [d1, d2] => { results := [.lit (.bool false)], args := [d1, d2] }
  | _ => none }
def ChordsCountsWrongFalsely : Prop := chordsCountsRow.holds Tryd.pinned (OpenSpec.ofChange chordsCountsWrong)

/-- 'sackbutlaw01.ChordsImages': WHATEVER THE INPUT: true; the input reads as it did. -/
def chordsImagesSpec : ChangeSpec := { name := "chordsImages", fn := fun _ => fun
  | [d1, d2, d3, d4] => { results := [.lit (.bool true)], args := [d1, d2, d3, d4] }
  | _ => none }
def chordsImagesRow : OpenClaim := { program := "ytnjmiodnkjabgaadoor", sum := "d99641794c1f41fbd382a1b011f331ced0d082c8c2907ffae25214afa7871295", func := "sackbut/sackbutlaw01.ChordsImages", spec := "chordsImages", unfollowed := true, recurses := true, named := ["math/bits.deBruijn32tab", "math/bits.deBruijn64tab"], plainKeys := false, apart := false, laid := [("math/bits.deBruijn32tab", laid_math_bits_deBruijn32tab), ("math/bits.deBruijn64tab", laid_math_bits_deBruijn64tab)] }
def ChordsImagesSaid : Prop := chordsImagesRow.holds Tryd.pinned (OpenSpec.ofChange chordsImagesSpec)

/-- ITS FALSE NEIGHBOUR: 'it returns false'. Refute it at one input. -/
def chordsImagesWrong : ChangeSpec := { name := "chordsImages", fn := fun _ => fun
  | [d1, d2, d3, d4] => { results := [.lit (.bool false)], args := [d1, d2, d3, d4] }
  | _ => none }
def ChordsImagesWrongFalsely : Prop := chordsImagesRow.holds Tryd.pinned (OpenSpec.ofChange chordsImagesWrong)

/-- 'sackbutlaw01.ChordsLists': WHATEVER THE INPUT: true; the input reads as it did. -/
def chordsListsSpec : ChangeSpec := { name := "chordsLists", fn := fun _ => fun
  | [d1, d2] => { results := [.lit (.bool true)], args := [d1, d2] }
  | _ => none }
def chordsListsRow : OpenClaim := { program := "ytnjmiodnkjabgaadoor", sum := "d99641794c1f41fbd382a1b011f331ced0d082c8c2907ffae25214afa7871295", func := "sackbut/sackbutlaw01.ChordsLists", spec := "chordsLists", unfollowed := true, recurses := true, named := ["math/bits.deBruijn32tab", "math/bits.deBruijn64tab"], plainKeys := false, apart := false, laid := [("math/bits.deBruijn32tab", laid_math_bits_deBruijn32tab), ("math/bits.deBruijn64tab", laid_math_bits_deBruijn64tab)] }
def ChordsListsSaid : Prop := chordsListsRow.holds Tryd.pinned (OpenSpec.ofChange chordsListsSpec)

/-- ITS FALSE NEIGHBOUR: 'it returns false'. Refute it at one input. -/
def chordsListsWrong : ChangeSpec := { name := "chordsLists", fn := fun _ => fun
  | [d1, d2] => { results := [.lit (.bool false)], args := [d1, d2] }
  | _ => none }
def ChordsListsWrongFalsely : Prop := chordsListsRow.holds Tryd.pinned (OpenSpec.ofChange chordsListsWrong)

/-- 'sackbutlaw01.ChordsTwins': WHATEVER THE INPUT: true; the input reads as it did. -/
def chordsTwinsSpec : ChangeSpec := { name := "chordsTwins", fn := fun _ => fun
  | [d] => { results := [.lit (.bool true)], args := [d] }
  | _ => none }
def chordsTwinsRow : OpenClaim := { program := "ytnjmiodnkjabgaadoor", sum := "d99641794c1f41fbd382a1b011f331ced0d082c8c2907ffae25214afa7871295", func := "sackbut/sackbutlaw01.ChordsTwins", spec := "chordsTwins", unfollowed := true, recurses := true, named := ["math/bits.deBruijn32tab", "math/bits.deBruijn64tab"], plainKeys := false, apart := false, laid := [("math/bits.deBruijn32tab", laid_math_bits_deBruijn32tab), ("math/bits.deBruijn64tab", laid_math_bits_deBruijn64tab)] }
def ChordsTwinsSaid : Prop := chordsTwinsRow.holds Tryd.pinned (OpenSpec.ofChange chordsTwinsSpec)

/-- ITS FALSE NEIGHBOUR: 'it returns false'. Refute it at one input. -/
def chordsTwinsWrong : ChangeSpec := { name := "chordsTwins", fn := fun _ => fun
  | [d] => { results := [.lit (.bool false)], args := [d] }
  | _ => none }
def ChordsTwinsWrongFalsely : Prop := chordsTwinsRow.holds Tryd.pinned (OpenSpec.ofChange chordsTwinsWrong)

/- THE SECOND FORM. 'bulk': how many values and letters a reading holds, each counted each time it is reached (what is shared counts as often as it is met; a slice's spare places count too). A statement '..UptoSaid' is the law's where the arguments, and the package variables that the reading takes, are together of bulk at most 1048576: NARROWER than '..Said'. Prove '..Said' where nothing that the law and all that it calls make is longer than what came in: it says more and counts as full. Else prove '..UptoSaid'. A law counts once. -/
mutual
def uptoBulk {H : Type} : DataW H → Nat
  | .lit (.string bytes) => bytes.length + 1
  | .lit _ => 1
  | .nil => 1
  | .ptr d => uptoBulk d + 1
  | .slice elems spare => uptoBulkAll elems + uptoBulkAll spare + 1
  | .agg parts => uptoBulkAll parts + 1
  | .iface _ d => uptoBulk d + 1
  | .map entries => uptoBulkEntries entries + 1
  | .held _ => 1
def uptoBulkAll {H : Type} : List (DataW H) → Nat
  | [] => 0
  | d :: r => uptoBulk d + uptoBulkAll r
def uptoBulkEntries {H : Type} : List (Lit × DataW H) → Nat
  | [] => 0
  | x :: r => uptoBulkEntry x + uptoBulkEntries r
def uptoBulkEntry {H : Type} : Lit × DataW H → Nat
  | (.string bytes, d) => bytes.length + uptoBulk d + 1
  | (_, d) => uptoBulk d + 1
 end
def uptoSmall : (H : Type) → List (DataW H) → Bool := fun _ ds => decide (uptoBulkAll ds ≤ 1048576)
def OpenSpec.upto (s : _root_.Go.ChangeSpec) : _root_.Go.OpenSpec := { _root_.Go.OpenSpec.ofChange s with cond := some uptoSmall }

/-- 'sackbutlaw01.ChordsStill', WHERE WHAT IT READS IS OF BULK AT MOST 1048576: true; the input reads as it did. -/
def chordsStillUptoRow : OpenClaim := { program := "ytnjmiodnkjabgaadoor", sum := "d99641794c1f41fbd382a1b011f331ced0d082c8c2907ffae25214afa7871295", func := "sackbut/sackbutlaw01.ChordsStill", spec := "chordsStill", unfollowed := true, recurses := true, named := ["math/bits.deBruijn32tab", "math/bits.deBruijn64tab"], plainKeys := false, apart := false, laid := [("math/bits.deBruijn32tab", laid_math_bits_deBruijn32tab), ("math/bits.deBruijn64tab", laid_math_bits_deBruijn64tab)], narrowed := true }
def ChordsStillUptoSaid : Prop := chordsStillUptoRow.holds Tryd.pinned (OpenSpec.upto chordsStillSpec)

/-- 'sackbutlaw01.ChordsMoves', WHERE WHAT IT READS IS OF BULK AT MOST 1048576: true; the input reads as it did. -/
def chordsMovesUptoRow : OpenClaim := { program := "ytnjmiodnkjabgaadoor", sum := "d99641794c1f41fbd382a1b011f331ced0d082c8c2907ffae25214afa7871295", func := "sackbut/sackbutlaw01.ChordsMoves", spec := "chordsMoves", unfollowed := true, recurses := true, named := ["math/bits.deBruijn32tab", "math/bits.deBruijn64tab"], plainKeys := false, apart := false, laid := [("math/bits.deBruijn32tab", laid_math_bits_deBruijn32tab), ("math/bits.deBruijn64tab", laid_math_bits_deBruijn64tab)], narrowed := true }
def ChordsMovesUptoSaid : Prop := chordsMovesUptoRow.holds Tryd.pinned (OpenSpec.upto chordsMovesSpec)

/-- 'sackbutlaw01.ChordsTimes', WHERE WHAT IT READS IS OF BULK AT MOST 1048576: true; the input reads as it did. -/
def chordsTimesUptoRow : OpenClaim := { program := "ytnjmiodnkjabgaadoor", sum := "d99641794c1f41fbd382a1b011f331ced0d082c8c2907ffae25214afa7871295", func := "sackbut/sackbutlaw01.ChordsTimes", spec := "chordsTimes", unfollowed := true, recurses := true, named := ["math/bits.deBruijn32tab", "math/bits.deBruijn64tab"], plainKeys := false, apart := false, laid := [("math/bits.deBruijn32tab", laid_math_bits_deBruijn32tab), ("math/bits.deBruijn64tab", laid_math_bits_deBruijn64tab)], narrowed := true }
def ChordsTimesUptoSaid : Prop := chordsTimesUptoRow.holds Tryd.pinned (OpenSpec.upto chordsTimesSpec)

/-- 'sackbutlaw01.ChordsWays', WHERE WHAT IT READS IS OF BULK AT MOST 1048576: true; the input reads as it did. -/
def chordsWaysUptoRow : OpenClaim := { program := "ytnjmiodnkjabgaadoor", sum := "d99641794c1f41fbd382a1b011f331ced0d082c8c2907ffae25214afa7871295", func := "sackbut/sackbutlaw01.ChordsWays", spec := "chordsWays", unfollowed := true, recurses := true, named := ["math/bits.deBruijn32tab", "math/bits.deBruijn64tab"], plainKeys := false, apart := false, laid := [("math/bits.deBruijn32tab", laid_math_bits_deBruijn32tab), ("math/bits.deBruijn64tab", laid_math_bits_deBruijn64tab)], narrowed := true }
def ChordsWaysUptoSaid : Prop := chordsWaysUptoRow.holds Tryd.pinned (OpenSpec.upto chordsWaysSpec)

/-- 'sackbutlaw01.ChordsPrimes', WHERE WHAT IT READS IS OF BULK AT MOST 1048576: true; the input reads as it did. -/
def chordsPrimesUptoRow : OpenClaim := { program := "ytnjmiodnkjabgaadoor", sum := "d99641794c1f41fbd382a1b011f331ced0d082c8c2907ffae25214afa7871295", func := "sackbut/sackbutlaw01.ChordsPrimes", spec := "chordsPrimes", unfollowed := true, recurses := true, named := ["math/bits.deBruijn32tab", "math/bits.deBruijn64tab"], plainKeys := false, apart := false, laid := [("math/bits.deBruijn32tab", laid_math_bits_deBruijn32tab), ("math/bits.deBruijn64tab", laid_math_bits_deBruijn64tab)], narrowed := true }
def ChordsPrimesUptoSaid : Prop := chordsPrimesUptoRow.holds Tryd.pinned (OpenSpec.upto chordsPrimesSpec)

/-- 'sackbutlaw01.ChordsCounts', WHERE WHAT IT READS IS OF BULK AT MOST 1048576: true; the input reads as it did. -/
def chordsCountsUptoRow : OpenClaim := { program := "ytnjmiodnkjabgaadoor", sum := "d99641794c1f41fbd382a1b011f331ced0d082c8c2907ffae25214afa7871295", func := "sackbut/sackbutlaw01.ChordsCounts", spec := "chordsCounts", unfollowed := true, recurses := true, named := ["math/bits.deBruijn32tab", "math/bits.deBruijn64tab"], plainKeys := false, apart := false, laid := [("math/bits.deBruijn32tab", laid_math_bits_deBruijn32tab), ("math/bits.deBruijn64tab", laid_math_bits_deBruijn64tab)], narrowed := true }
def ChordsCountsUptoSaid : Prop := chordsCountsUptoRow.holds Tryd.pinned (OpenSpec.upto chordsCountsSpec)

/-- 'sackbutlaw01.ChordsImages', WHERE WHAT IT READS IS OF BULK AT MOST 1048576: true; the input reads as it did. -/
def chordsImagesUptoRow : OpenClaim := { program := "ytnjmiodnkjabgaadoor", sum := "d99641794c1f41fbd382a1b011f331ced0d082c8c2907ffae25214afa7871295", func := "sackbut/sackbutlaw01.ChordsImages", spec := "chordsImages", unfollowed := true, recurses := true, named := ["math/bits.deBruijn32tab", "math/bits.deBruijn64tab"], plainKeys := false, apart := false, laid := [("math/bits.deBruijn32tab", laid_math_bits_deBruijn32tab), ("math/bits.deBruijn64tab", laid_math_bits_deBruijn64tab)], narrowed := true }
def ChordsImagesUptoSaid : Prop := chordsImagesUptoRow.holds Tryd.pinned (OpenSpec.upto chordsImagesSpec)

/-- 'sackbutlaw01.ChordsLists', WHERE WHAT IT READS IS OF BULK AT MOST 1048576: true; the input reads as it did. -/
def chordsListsUptoRow : OpenClaim := { program := "ytnjmiodnkjabgaadoor", sum := "d99641794c1f41fbd382a1b011f331ced0d082c8c2907ffae25214afa7871295", func := "sackbut/sackbutlaw01.ChordsLists", spec := "chordsLists", unfollowed := true, recurses := true, named := ["math/bits.deBruijn32tab", "math/bits.deBruijn64tab"], plainKeys := false, apart := false, laid := [("math/bits.deBruijn32tab", laid_math_bits_deBruijn32tab), ("math/bits.deBruijn64tab", laid_math_bits_deBruijn64tab)], narrowed := true }
def ChordsListsUptoSaid : Prop := chordsListsUptoRow.holds Tryd.pinned (OpenSpec.upto chordsListsSpec)

/-- 'sackbutlaw01.ChordsTwins', WHERE WHAT IT READS IS OF BULK AT MOST 1048576: true; the input reads as it did. -/
def chordsTwinsUptoRow : OpenClaim := { program := "ytnjmiodnkjabgaadoor", sum := "d99641794c1f41fbd382a1b011f331ced0d082c8c2907ffae25214afa7871295", func := "sackbut/sackbutlaw01.ChordsTwins", spec := "chordsTwins", unfollowed := true, recurses := true, named := ["math/bits.deBruijn32tab", "math/bits.deBruijn64tab"], plainKeys := false, apart := false, laid := [("math/bits.deBruijn32tab", laid_math_bits_deBruijn32tab), ("math/bits.deBruijn64tab", laid_math_bits_deBruijn64tab)], narrowed := true }
def ChordsTwinsUptoSaid : Prop := chordsTwinsUptoRow.holds Tryd.pinned (OpenSpec.upto chordsTwinsSpec)

end Rows
end Go.Proofs.YtnjmiodnkjabgaaDoor
