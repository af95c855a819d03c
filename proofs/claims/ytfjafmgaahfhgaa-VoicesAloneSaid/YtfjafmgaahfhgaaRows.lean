/-
  No cell of these rows narrows 'for every input' (looked for: loops, veiled, ifaces, maps, wideKeys, modest, calm, conditions, laid).
  DERIVED. THE GIVEN ROWS OF THIS SEAT. 7 by the template 'for every input the law returns true; each argument reads behind the call as it read before'; 0 by the template 'total and deterministic' (their statements: YtfjafmgaahfhgaaTotals.lean).
  GIVEN WITH THE SEED: the statements are not yours to turn. If you find one false, say at which input.
  Laid BY PROGRAM, IN A SANDBOX (cutbox-rows.mjs): the forced cells as the released guide's own fill.sh prints them over the translation 2f88093fc87839db… (all of the seat's roots in one cut). By AI agents, Wed Nov 11 2026. No macro, syntax, notation, axiom, sorry.
-/
import Derived.Test.YtfjafmgaahfhgaaChecked
import GoSem.Claim
import GoSem.ClaimJoined
import GoSem.ClaimMapViews
import Derived.JoinedTies
import Derived.KernelRfl
namespace Go.Proofs.Ytfjafmgaahfhgaa
/- THE CELL 'sum', in the pinned program and in every row, IS THE sha256 OF THE DUMP (.gsa) THAT YtfjafmgaahfhgaaProg.lean LOADS. Nothing in Lean hashes anything: it is a label: what it is worth is what the hold of that sum in a sandbox is worth. -/
noncomputable def Try.pinned : Pinned := { name := "ytfjafmgaahfhgaa", sum := "2f88093fc87839dba240919d6b687e6adbde942e2bf5cddc71802aee73228b84", checked := Try.checked }
namespace Rows
def none {H : Type} : Left H := { results := [], args := [] }

/-- 'sackbutlaw06.VoicesAlone': WHATEVER THE INPUT: true; the input reads as it did. -/
def voicesAloneSpec : ChangeSpec := { name := "voicesAlone", fn := fun _ => fun
  | [d1, d2, d3, d4] => { results := [.lit (.bool true)], args := [d1, d2, d3, d4] }
  | _ => none }
def voicesAloneRow : OpenClaim := { program := "ytfjafmgaahfhgaa", sum := "2f88093fc87839dba240919d6b687e6adbde942e2bf5cddc71802aee73228b84", func := "sackbut/sackbutlaw06.VoicesAlone", spec := "voicesAlone", unfollowed := true, recurses := true, plainKeys := false, apart := false }
def VoicesAloneSaid : Prop := voicesAloneRow.holds Try.pinned (OpenSpec.ofChange voicesAloneSpec)

/-- ITS FALSE NEIGHBOUR: 'it returns false'. Refute it at one input. -/
def voicesAloneWrong : ChangeSpec := { name := "voicesAlone", fn := fun _ => fun
  | [d1, d2, d3, d4] => { results := [.lit (.bool false)], args := [d1, d2, d3, d4] }
  | _ => none }
def VoicesAloneWrongFalsely : Prop := voicesAloneRow.holds Try.pinned (OpenSpec.ofChange voicesAloneWrong)

/-- 'sackbutlaw06.VoicesPaths': WHATEVER THE INPUT: true; the input reads as it did. -/
def voicesPathsSpec : ChangeSpec := { name := "voicesPaths", fn := fun _ => fun
  | [d1, d2, d3, d4] => { results := [.lit (.bool true)], args := [d1, d2, d3, d4] }
  | _ => none }
def voicesPathsRow : OpenClaim := { program := "ytfjafmgaahfhgaa", sum := "2f88093fc87839dba240919d6b687e6adbde942e2bf5cddc71802aee73228b84", func := "sackbut/sackbutlaw06.VoicesPaths", spec := "voicesPaths", unfollowed := true, recurses := true, plainKeys := false, apart := false }
def VoicesPathsSaid : Prop := voicesPathsRow.holds Try.pinned (OpenSpec.ofChange voicesPathsSpec)

/-- ITS FALSE NEIGHBOUR: 'it returns false'. Refute it at one input. -/
def voicesPathsWrong : ChangeSpec := { name := "voicesPaths", fn := fun _ => fun
  | [d1, d2, d3, d4] => { results := [.lit (.bool false)], args := [d1, d2, d3, d4] }
  | _ => none }
def VoicesPathsWrongFalsely : Prop := voicesPathsRow.holds Try.pinned (OpenSpec.ofChange voicesPathsWrong)

/-- 'sackbutlaw06.VoicesShort': WHATEVER THE INPUT: true; the input reads as it did. -/
def voicesShortSpec : ChangeSpec := { name := "voicesShort", fn := fun _ => fun
  | [d1, d2, d3, d4] => { results := [.lit (.bool true)], args := [d1, d2, d3, d4] }
  | _ => none }
def voicesShortRow : OpenClaim := { program := "ytfjafmgaahfhgaa", sum := "2f88093fc87839dba240919d6b687e6adbde942e2bf5cddc71802aee73228b84", func := "sackbut/sackbutlaw06.VoicesShort", spec := "voicesShort", unfollowed := true, recurses := true, plainKeys := false, apart := false }
def VoicesShortSaid : Prop := voicesShortRow.holds Try.pinned (OpenSpec.ofChange voicesShortSpec)

/-- ITS FALSE NEIGHBOUR: 'it returns false'. Refute it at one input. -/
def voicesShortWrong : ChangeSpec := { name := "voicesShort", fn := fun _ => fun
  | [d1, d2, d3, d4] => { results := [.lit (.bool false)], args := [d1, d2, d3, d4] }
  | _ => none }
def VoicesShortWrongFalsely : Prop := voicesShortRow.holds Try.pinned (OpenSpec.ofChange voicesShortWrong)

/-- 'sackbutlaw06.VoicesNear': WHATEVER THE INPUT: true; the input reads as it did. -/
def voicesNearSpec : ChangeSpec := { name := "voicesNear", fn := fun _ => fun
  | [d1, d2, d3] => { results := [.lit (.bool true)], args := [d1, d2, d3] }
  | _ => none }
def voicesNearRow : OpenClaim := { program := "ytfjafmgaahfhgaa", sum := "2f88093fc87839dba240919d6b687e6adbde942e2bf5cddc71802aee73228b84", func := "sackbut/sackbutlaw06.VoicesNear", spec := "voicesNear", unfollowed := true, recurses := true, plainKeys := false, apart := false }
def VoicesNearSaid : Prop := voicesNearRow.holds Try.pinned (OpenSpec.ofChange voicesNearSpec)

/-- ITS FALSE NEIGHBOUR: 'it returns false'. Refute it at one input. -/
def voicesNearWrong : ChangeSpec := { name := "voicesNear", fn := fun _ => fun
  | [d1, d2, d3] => { results := [.lit (.bool false)], args := [d1, d2, d3] }
  | _ => none }
def VoicesNearWrongFalsely : Prop := voicesNearRow.holds Try.pinned (OpenSpec.ofChange voicesNearWrong)

/-- 'sackbutlaw06.VoicesImages': WHATEVER THE INPUT: true; the input reads as it did. -/
def voicesImagesSpec : ChangeSpec := { name := "voicesImages", fn := fun _ => fun
  | [d1, d2, d3, d4, d5] => { results := [.lit (.bool true)], args := [d1, d2, d3, d4, d5] }
  | _ => none }
def voicesImagesRow : OpenClaim := { program := "ytfjafmgaahfhgaa", sum := "2f88093fc87839dba240919d6b687e6adbde942e2bf5cddc71802aee73228b84", func := "sackbut/sackbutlaw06.VoicesImages", spec := "voicesImages", unfollowed := true, recurses := true, plainKeys := false, apart := false }
def VoicesImagesSaid : Prop := voicesImagesRow.holds Try.pinned (OpenSpec.ofChange voicesImagesSpec)

/-- ITS FALSE NEIGHBOUR: 'it returns false'. Refute it at one input. -/
def voicesImagesWrong : ChangeSpec := { name := "voicesImages", fn := fun _ => fun
  | [d1, d2, d3, d4, d5] => { results := [.lit (.bool false)], args := [d1, d2, d3, d4, d5] }
  | _ => none }
def VoicesImagesWrongFalsely : Prop := voicesImagesRow.holds Try.pinned (OpenSpec.ofChange voicesImagesWrong)

/-- 'sackbutlaw06.VoicesBalls': WHATEVER THE INPUT: true; the input reads as it did. -/
def voicesBallsSpec : ChangeSpec := { name := "voicesBalls", fn := fun _ => fun
  | [d1, d2, d3] => { results := [.lit (.bool true)], args := [d1, d2, d3] }
  | _ => none }
def voicesBallsRow : OpenClaim := { program := "ytfjafmgaahfhgaa", sum := "2f88093fc87839dba240919d6b687e6adbde942e2bf5cddc71802aee73228b84", func := "sackbut/sackbutlaw06.VoicesBalls", spec := "voicesBalls", unfollowed := true, recurses := true, plainKeys := false, apart := false }
def VoicesBallsSaid : Prop := voicesBallsRow.holds Try.pinned (OpenSpec.ofChange voicesBallsSpec)

/-- ITS FALSE NEIGHBOUR: 'it returns false'. Refute it at one input. -/
def voicesBallsWrong : ChangeSpec := { name := "voicesBalls", fn := fun _ => fun
  | [d1, d2, d3] => { results := [.lit (.bool false)], args := [d1, d2, d3] }
  | _ => none }
def VoicesBallsWrongFalsely : Prop := voicesBallsRow.holds Try.pinned (OpenSpec.ofChange voicesBallsWrong)

/-- 'sackbutlaw06.VoicesGrow': WHATEVER THE INPUT: true; the input reads as it did. -/
def voicesGrowSpec : ChangeSpec := { name := "voicesGrow", fn := fun _ => fun
  | [d1, d2, d3, d4] => { results := [.lit (.bool true)], args := [d1, d2, d3, d4] }
  | _ => none }
def voicesGrowRow : OpenClaim := { program := "ytfjafmgaahfhgaa", sum := "2f88093fc87839dba240919d6b687e6adbde942e2bf5cddc71802aee73228b84", func := "sackbut/sackbutlaw06.VoicesGrow", spec := "voicesGrow", unfollowed := true, recurses := true, plainKeys := false, apart := false }
def VoicesGrowSaid : Prop := voicesGrowRow.holds Try.pinned (OpenSpec.ofChange voicesGrowSpec)

/-- ITS FALSE NEIGHBOUR: 'it returns false'. Refute it at one input. -/
def voicesGrowWrong : ChangeSpec := { name := "voicesGrow", fn := fun _ => fun
  | [d1, d2, d3, d4] => { results := [.lit (.bool false)], args := [d1, d2, d3, d4] }
  | _ => none }
def VoicesGrowWrongFalsely : Prop := voicesGrowRow.holds Try.pinned (OpenSpec.ofChange voicesGrowWrong)

/- THE SECOND FORM. 'bulk': how many values and letters a reading holds, each counted each time it is reached (what is shared counts as often as it is met; a slice's spare places count too). A statement '..UptoSaid' is the law's where the arguments, and the package variables that the reading takes, are together of bulk at most 1048576: NARROWER than '..Said'. Prove '..Said' where nothing that the law and all that it calls make is longer than what came in: it says more and counts as full. Else prove '..UptoSaid'. A law counts once. -/
mutual
def uptoBulk {H : Type} : DataW H → Nat
  | .lit (.string bytes) => bytes.length + 1
  | .lit _ => 1
  | .nil => 1
  | .ptr d => uptoBulk d + 1
  | .slice elems spare => uptoBulkAll elems + uptoBulkAll spare + 1
  | .agg parts => uptoBulkAll parts + 1
  | .iface _ d => uptoBulk d + 1
  | .map entries => uptoBulkEntries entries + 1
  | .held _ => 1
def uptoBulkAll {H : Type} : List (DataW H) → Nat
  | [] => 0
  | d :: r => uptoBulk d + uptoBulkAll r
def uptoBulkEntries {H : Type} : List (Lit × DataW H) → Nat
  | [] => 0
  | x :: r => uptoBulkEntry x + uptoBulkEntries r
def uptoBulkEntry {H : Type} : Lit × DataW H → Nat
  | (.string bytes, d) => bytes.length + uptoBulk d + 1
  | (_, d) => uptoBulk d + 1
 end
def uptoSmall : (H : Type) → List (DataW H) → Bool := fun _ ds => decide (uptoBulkAll ds ≤ 1048576)
def OpenSpec.upto (s : _root_.Go.ChangeSpec) : _root_.Go.OpenSpec := { _root_.Go.OpenSpec.ofChange s with cond := some uptoSmall }

/-- 'sackbutlaw06.VoicesAlone', WHERE WHAT IT READS IS OF BULK AT MOST 1048576: true; the input reads as it did. -/
def voicesAloneUptoRow : OpenClaim := { program := "ytfjafmgaahfhgaa", sum := "2f88093fc87839dba240919d6b687e6adbde942e2bf5cddc71802aee73228b84", func := "sackbut/sackbutlaw06.VoicesAlone", spec := "voicesAlone", unfollowed := true, recurses := true, plainKeys := false, apart := false, narrowed := true }
def VoicesAloneUptoSaid : Prop := voicesAloneUptoRow.holds Try.pinned (OpenSpec.upto voicesAloneSpec)

/-- 'sackbutlaw06.VoicesPaths', WHERE WHAT IT READS IS OF BULK AT MOST 1048576: true; the input reads as it did. -/
def voicesPathsUptoRow : OpenClaim := { program := "ytfjafmgaahfhgaa", sum := "2f88093fc87839dba240919d6b687e6adbde942e2bf5cddc71802aee73228b84", func := "sackbut/sackbutlaw06.VoicesPaths", spec := "voicesPaths", unfollowed := true, recurses := true, plainKeys := false, apart := false, narrowed := true }
def VoicesPathsUptoSaid : Prop := voicesPathsUptoRow.holds Try.pinned (OpenSpec.upto voicesPathsSpec)

/-- 'sackbutlaw06.VoicesShort', WHERE WHAT IT READS IS OF BULK AT MOST 1048576: true; the input reads as it did. -/
def voicesShortUptoRow : OpenClaim := { program := "ytfjafmgaahfhgaa", sum := "2f88093fc87839dba240919d6b687e6adbde942e2bf5cddc71802aee73228b84", func := "sackbut/sackbutlaw06.VoicesShort", spec := "voicesShort", unfollowed := true, recurses := true, plainKeys := false, apart := false, narrowed := true }
def VoicesShortUptoSaid : Prop := voicesShortUptoRow.holds Try.pinned (OpenSpec.upto voicesShortSpec)

/-- 'sackbutlaw06.VoicesNear', WHERE WHAT IT READS IS OF BULK AT MOST 1048576: true; the input reads as it did. -/
def voicesNearUptoRow : OpenClaim := { program := "ytfjafmgaahfhgaa", sum := "2f88093fc87839dba240919d6b687e6adbde942e2bf5cddc71802aee73228b84", func := "sackbut/sackbutlaw06.VoicesNear", spec := "voicesNear", unfollowed := true, recurses := true, plainKeys := false, apart := false, narrowed := true }
def VoicesNearUptoSaid : Prop := voicesNearUptoRow.holds Try.pinned (OpenSpec.upto voicesNearSpec)

/-- 'sackbutlaw06.VoicesImages', WHERE WHAT IT READS IS OF BULK AT MOST 1048576: true; the input reads as it did. -/
def voicesImagesUptoRow : OpenClaim := { program := "ytfjafmgaahfhgaa", sum := "2f88093fc87839dba240919d6b687e6adbde942e2bf5cddc71802aee73228b84", func := "sackbut/sackbutlaw06.VoicesImages", spec := "voicesImages", unfollowed := true, recurses := true, plainKeys := false, apart := false, narrowed := true }
def VoicesImagesUptoSaid : Prop := voicesImagesUptoRow.holds Try.pinned (OpenSpec.upto voicesImagesSpec)

/-- 'sackbutlaw06.VoicesBalls', WHERE WHAT IT READS IS OF BULK AT MOST 1048576: true; the input reads as it did. -/
def voicesBallsUptoRow : OpenClaim := { program := "ytfjafmgaahfhgaa", sum := "2f88093fc87839dba240919d6b687e6adbde942e2bf5cddc71802aee73228b84", func := "sackbut/sackbutlaw06.VoicesBalls", spec := "voicesBalls", unfollowed := true, recurses := true, plainKeys := false, apart := false, narrowed := true }
def VoicesBallsUptoSaid : Prop := voicesBallsUptoRow.holds Try.pinned (OpenSpec.upto voicesBallsSpec)

/-- 'sackbutlaw06.VoicesGrow', WHERE WHAT IT READS IS OF BULK AT MOST 1048576: true; the input reads as it did. -/
def voicesGrowUptoRow : OpenClaim := { program := "ytfjafmgaahfhgaa", sum := "2f88093fc87839dba240919d6b687e6adbde942e2bf5cddc71802aee73228b84", func := "sackbut/sackbutlaw06.VoicesGrow", spec := "voicesGrow", unfollowed := true, recurses := true, plainKeys := false, apart := false, narrowed := true }
def VoicesGrowUptoSaid : Prop := voicesGrowUptoRow.holds Try.pinned (OpenSpec.upto voicesGrowSpec)

end Rows
end Go.Proofs.Ytfjafmgaahfhgaa
