/-
  No cell of these rows narrows 'for every input' (looked for: loops, veiled, ifaces, maps, wideKeys, modest, calm, conditions, laid).
  DERIVED. THE GIVEN ROWS OF THIS SEAT. 8 by the template 'for every input the law returns true; each argument reads behind the call as it read before'; 0 by the template 'total and deterministic' (their statements: YtdnjbjcfbdclfaaTotals.lean).
  GIVEN WITH THE SEED: the statements are not yours to turn. If you find one false, say at which input.
  Laid BY PROGRAM, IN A SANDBOX (cutbox-rows.mjs): the forced cells as the released guide's own fill.sh prints them over the translation cb1e6c27c69b52ea… (all of the seat's roots in one cut). By AI agents, Wed Nov 11 2026. No macro, syntax, notation, axiom, sorry.
-/
import Derived.Test.YtdnjbjcfbdclfaaChecked
import GoSem.Claim
import GoSem.ClaimJoined
import GoSem.ClaimMapViews
import Derived.JoinedTies
import Derived.KernelRfl
namespace Go.Proofs.Ytdnjbjcfbdclfaa
/- THE CELL 'sum', in the pinned program and in every row, IS THE sha256 OF THE DUMP (.gsa) THAT YtdnjbjcfbdclfaaProg.lean LOADS. Nothing in Lean hashes anything: it is a label: what it is worth is what the hold of that sum in a sandbox is worth. -/
noncomputable def Try.pinned : Pinned := { name := "ytdnjbjcfbdclfaa", sum := "cb1e6c27c69b52eae0b83c3b3d9f2ff6b2f410ae3a127a2a8e80b37cb2cb8844", checked := Try.checked }
namespace Rows
def none {H : Type} : Left H := { results := [], args := [] }

/-- 'sackbutlaw06.VoicesMoved': WHATEVER THE INPUT: true; the input reads as it did. -/
def voicesMovedSpec : ChangeSpec := { name := "voicesMoved", fn := fun _ => fun
  | [d1, d2, d3, d4, d5] => { results := [.lit (.bool true)], args := [d1, d2, d3, d4, d5] }
  | _ => none }
def voicesMovedRow : OpenClaim := { program := "ytdnjbjcfbdclfaa", sum := "cb1e6c27c69b52eae0b83c3b3d9f2ff6b2f410ae3a127a2a8e80b37cb2cb8844", func := "sackbut/sackbutlaw06.VoicesMoved", spec := "voicesMoved", unfollowed := true, recurses := true, apart := false }
def VoicesMovedSaid : Prop := voicesMovedRow.holds Try.pinned (OpenSpec.ofChange voicesMovedSpec)

/-- ITS FALSE NEIGHBOUR: 'it returns false'. Refute it at one input. -/
def voicesMovedWrong : ChangeSpec := { name := "voicesMoved", fn := fun _ => fun
  | [d1, d2, d3, d4, d5] => { results := [.lit (.bool false)], args := [d1, d2, d3, d4, d5] }
  | _ => none }
def VoicesMovedWrongFalsely : Prop := voicesMovedRow.holds Try.pinned (OpenSpec.ofChange voicesMovedWrong)

/-- 'sackbutlaw06.VoicesRotates': WHATEVER THE INPUT: true; the input reads as it did. -/
def voicesRotatesSpec : ChangeSpec := { name := "voicesRotates", fn := fun _ => fun
  | [d1, d2, d3] => { results := [.lit (.bool true)], args := [d1, d2, d3] }
  | _ => none }
def voicesRotatesRow : OpenClaim := { program := "ytdnjbjcfbdclfaa", sum := "cb1e6c27c69b52eae0b83c3b3d9f2ff6b2f410ae3a127a2a8e80b37cb2cb8844", func := "sackbut/sackbutlaw06.VoicesRotates", spec := "voicesRotates", unfollowed := true, recurses := true, apart := false }
def VoicesRotatesSaid : Prop := voicesRotatesRow.holds Try.pinned (OpenSpec.ofChange voicesRotatesSpec)

/-- ITS FALSE NEIGHBOUR: 'it returns false'. Refute it at one input. -/
def voicesRotatesWrong : ChangeSpec := { name := "voicesRotates", fn := fun _ => fun
  | [d1, d2, d3] => { results := [.lit (.bool false)], args := [d1, d2, d3] }
  | _ => none }
def VoicesRotatesWrongFalsely : Prop := voicesRotatesRow.holds Try.pinned (OpenSpec.ofChange voicesRotatesWrong)

/-- 'sackbutlaw06.VoicesCosts': WHATEVER THE INPUT: true; the input reads as it did. -/
def voicesCostsSpec : ChangeSpec := { name := "voicesCosts", fn := fun _ => fun
  | [d1, d2, d3] => { results := [.lit (.bool true)], args := [d1, d2, d3] }
  | _ => none }
def voicesCostsRow : OpenClaim := { program := "ytdnjbjcfbdclfaa", sum := "cb1e6c27c69b52eae0b83c3b3d9f2ff6b2f410ae3a127a2a8e80b37cb2cb8844", func := "sackbut/sackbutlaw06.VoicesCosts", spec := "voicesCosts", unfollowed := true, recurses := true, apart := false }
def VoicesCostsSaid : Prop := voicesCostsRow.holds Try.pinned (OpenSpec.ofChange voicesCostsSpec)

/-- ITS FALSE NEIGHBOUR: 'it returns false'. Refute it at one input. -/
def voicesCostsWrong : ChangeSpec := { name := "voicesCosts", fn := fun _ => fun
  | [d1, d2, d3] => { results := [.lit (.bool false)], args := [d1, d2, d3] }
  | _ => none }
def VoicesCostsWrongFalsely : Prop := voicesCostsRow.holds Try.pinned (OpenSpec.ofChange voicesCostsWrong)

/-- 'sackbutlaw06.VoicesMetric': WHATEVER THE INPUT: true; the input reads as it did. -/
def voicesMetricSpec : ChangeSpec := { name := "voicesMetric", fn := fun _ => fun
  | [d1, d2, d3, d4] => { results := [.lit (.bool true)], args := [d1, d2, d3, d4] }
  | _ => none }
def voicesMetricRow : OpenClaim := { program := "ytdnjbjcfbdclfaa", sum := "cb1e6c27c69b52eae0b83c3b3d9f2ff6b2f410ae3a127a2a8e80b37cb2cb8844", func := "sackbut/sackbutlaw06.VoicesMetric", spec := "voicesMetric", unfollowed := true, recurses := true, apart := false }
def VoicesMetricSaid : Prop := voicesMetricRow.holds Try.pinned (OpenSpec.ofChange voicesMetricSpec)

/-- ITS FALSE NEIGHBOUR: 'it returns false'. Refute it at one input. -/
def voicesMetricWrong : ChangeSpec := { name := "voicesMetric", fn := fun _ => fun
  | [d1, d2, d3, d4] => { results := [.lit (.bool false)], args := [d1, d2, d3, d4] }
  | _ => none }
def VoicesMetricWrongFalsely : Prop := voicesMetricRow.holds Try.pinned (OpenSpec.ofChange voicesMetricWrong)

/-- 'sackbutlaw06.VoicesCalm': WHATEVER THE INPUT: true; the input reads as it did. -/
def voicesCalmSpec : ChangeSpec := { name := "voicesCalm", fn := fun _ => fun
  | [d1, d2, d3] => { results := [.lit (.bool true)], args := [d1, d2, d3] }
  | _ => none }
def voicesCalmRow : OpenClaim := { program := "ytdnjbjcfbdclfaa", sum := "cb1e6c27c69b52eae0b83c3b3d9f2ff6b2f410ae3a127a2a8e80b37cb2cb8844", func := "sackbut/sackbutlaw06.VoicesCalm", spec := "voicesCalm", unfollowed := true, recurses := true, apart := false }
def VoicesCalmSaid : Prop := voicesCalmRow.holds Try.pinned (OpenSpec.ofChange voicesCalmSpec)

/-- ITS FALSE NEIGHBOUR: 'it returns false'. Refute it at one input. -/
def voicesCalmWrong : ChangeSpec := { name := "voicesCalm", fn := fun _ => fun
  | [d1, d2, d3] => { results := [.lit (.bool false)], args := [d1, d2, d3] }
  | _ => none }
def VoicesCalmWrongFalsely : Prop := voicesCalmRow.holds Try.pinned (OpenSpec.ofChange voicesCalmWrong)

/-- 'sackbutlaw06.VoicesPrices': WHATEVER THE INPUT: true; the input reads as it did. -/
def voicesPricesSpec : ChangeSpec := { name := "voicesPrices", fn := fun _ => fun
  | [d1, d2, d3, d4] => { results := [.lit (.bool true)], args := [d1, d2, d3, d4] }
  | _ => none }
def voicesPricesRow : OpenClaim := { program := "ytdnjbjcfbdclfaa", sum := "cb1e6c27c69b52eae0b83c3b3d9f2ff6b2f410ae3a127a2a8e80b37cb2cb8844", func := "sackbut/sackbutlaw06.VoicesPrices", spec := "voicesPrices", unfollowed := true, recurses := true, apart := false }
def VoicesPricesSaid : Prop := voicesPricesRow.holds Try.pinned (OpenSpec.ofChange voicesPricesSpec)

/-- ITS FALSE NEIGHBOUR: 'it returns false'. Refute it at one input. -/
def voicesPricesWrong : ChangeSpec := { name := "voicesPrices", fn := fun _ => fun
  | [d1, d2, d3, d4] => { results := [.lit (.bool false)], args := [d1, d2, d3, d4] }
  | _ => none }
def VoicesPricesWrongFalsely : Prop := voicesPricesRow.holds Try.pinned (OpenSpec.ofChange voicesPricesWrong)

/-- 'sackbutlaw06.VoicesMiddle': WHATEVER THE INPUT: true; the input reads as it did. -/
def voicesMiddleSpec : ChangeSpec := { name := "voicesMiddle", fn := fun _ => fun
  | [d1, d2, d3] => { results := [.lit (.bool true)], args := [d1, d2, d3] }
  | _ => none }
def voicesMiddleRow : OpenClaim := { program := "ytdnjbjcfbdclfaa", sum := "cb1e6c27c69b52eae0b83c3b3d9f2ff6b2f410ae3a127a2a8e80b37cb2cb8844", func := "sackbut/sackbutlaw06.VoicesMiddle", spec := "voicesMiddle", unfollowed := true, recurses := true, apart := false }
def VoicesMiddleSaid : Prop := voicesMiddleRow.holds Try.pinned (OpenSpec.ofChange voicesMiddleSpec)

/-- ITS FALSE NEIGHBOUR: 'it returns false'. Refute it at one input. -/
def voicesMiddleWrong : ChangeSpec := { name := "voicesMiddle", fn := fun _ => fun
  | [d1, d2, d3] => { results := [.lit (.bool false)], args := [d1, d2, d3] }
  | _ => none }
def VoicesMiddleWrongFalsely : Prop := voicesMiddleRow.holds Try.pinned (OpenSpec.ofChange voicesMiddleWrong)

/-- 'sackbutlaw06.VoicesQuiet': WHATEVER THE INPUT: true; the input reads as it did. -/
def voicesQuietSpec : ChangeSpec := { name := "voicesQuiet", fn := fun _ => fun
  | [d1, d2, d3, d4] => { results := [.lit (.bool true)], args := [d1, d2, d3, d4] }
  | _ => none }
def voicesQuietRow : OpenClaim := { program := "ytdnjbjcfbdclfaa", sum := "cb1e6c27c69b52eae0b83c3b3d9f2ff6b2f410ae3a127a2a8e80b37cb2cb8844", func := "sackbut/sackbutlaw06.VoicesQuiet", spec := "voicesQuiet", unfollowed := true, recurses := true, apart := false }
def VoicesQuietSaid : Prop := voicesQuietRow.holds Try.pinned (OpenSpec.ofChange voicesQuietSpec)

/-- ITS FALSE NEIGHBOUR: 'it returns false'. Refute it at one input. -/
def voicesQuietWrong : ChangeSpec := { name := "voicesQuiet", fn := fun _ => fun
  | [d1, d2, d3, d4] => { results := [.lit (.bool false)], args := [d1, d2, d3, d4] }
  | _ => none }
def VoicesQuietWrongFalsely : Prop := voicesQuietRow.holds Try.pinned (OpenSpec.ofChange voicesQuietWrong)

/- THE SECOND FORM. 'bulk': how many values and letters a reading holds, each counted each time it is reached (what is shared counts as often as it is met; a slice's spare places count too). A statement '..UptoSaid' is the law's where the arguments, and the package variables that the reading takes, are together of bulk at most 1048576: NARROWER than '..Said'. Prove '..Said' where nothing that the law and all that it calls make is longer than what came in: it says more and counts as full. Else prove '..UptoSaid'. A law counts once. -/
mutual
def uptoBulk {H : Type} : DataW H → Nat
  | .lit (.string bytes) => bytes.length + 1
  | .lit _ => 1
  | .nil => 1
  | .ptr d => uptoBulk d + 1
  | .slice elems spare => uptoBulkAll elems + uptoBulkAll spare + 1
  | .agg parts => uptoBulkAll parts + 1
  | .iface _ d => uptoBulk d + 1
  | .map entries => uptoBulkEntries entries + 1
  | .held _ => 1
def uptoBulkAll {H : Type} : List (DataW H) → Nat
  | [] => 0
  | d :: r => uptoBulk d + uptoBulkAll r
def uptoBulkEntries {H : Type} : List (Lit × DataW H) → Nat
  | [] => 0
  | x :: r => uptoBulkEntry x + uptoBulkEntries r
def uptoBulkEntry {H : Type} : Lit × DataW H → Nat
  | (.string bytes, d) => bytes.length + uptoBulk d + 1
  | (_, d) => uptoBulk d + 1
 end
def uptoSmall : (H : Type) → List (DataW H) → Bool := fun _ ds => decide (uptoBulkAll ds ≤ 1048576)
def OpenSpec.upto (s : _root_.Go.ChangeSpec) : _root_.Go.OpenSpec := { _root_.Go.OpenSpec.ofChange s with cond := some uptoSmall }

/-- 'sackbutlaw06.VoicesMoved', WHERE WHAT IT READS IS OF BULK AT MOST 1048576: true; the input reads as it did. -/
def voicesMovedUptoRow : OpenClaim := { program := "ytdnjbjcfbdclfaa", sum := "cb1e6c27c69b52eae0b83c3b3d9f2ff6b2f410ae3a127a2a8e80b37cb2cb8844", func := "sackbut/sackbutlaw06.VoicesMoved", spec := "voicesMoved", unfollowed := true, recurses := true, apart := false, narrowed := true }
def VoicesMovedUptoSaid : Prop := voicesMovedUptoRow.holds Try.pinned (OpenSpec.upto voicesMovedSpec)

/-- 'sackbutlaw06.VoicesRotates', WHERE WHAT IT READS IS OF BULK AT MOST 1048576: true; the input reads as it did. -/
def voicesRotatesUptoRow : OpenClaim := { program := "ytdnjbjcfbdclfaa", sum := "cb1e6c27c69b52eae0b83c3b3d9f2ff6b2f410ae3a127a2a8e80b37cb2cb8844", func := "sackbut/sackbutlaw06.VoicesRotates", spec := "voicesRotates", unfollowed := true, recurses := true, apart := false, narrowed := true }
def VoicesRotatesUptoSaid : Prop := voicesRotatesUptoRow.holds Try.pinned (OpenSpec.upto voicesRotatesSpec)

/-- 'sackbutlaw06.VoicesCosts', WHERE WHAT IT READS IS OF BULK AT MOST 1048576: true; the input reads as it did. -/
def voicesCostsUptoRow : OpenClaim := { program := "ytdnjbjcfbdclfaa", sum := "cb1e6c27c69b52eae0b83c3b3d9f2ff6b2f410ae3a127a2a8e80b37cb2cb8844", func := "sackbut/sackbutlaw06.VoicesCosts", spec := "voicesCosts", unfollowed := true, recurses := true, apart := false, narrowed := true }
def VoicesCostsUptoSaid : Prop := voicesCostsUptoRow.holds Try.pinned (OpenSpec.upto voicesCostsSpec)

/-- 'sackbutlaw06.VoicesMetric', WHERE WHAT IT READS IS OF BULK AT MOST 1048576: true; the input reads as it did. -/
def voicesMetricUptoRow : OpenClaim := { program := "ytdnjbjcfbdclfaa", sum := "cb1e6c27c69b52eae0b83c3b3d9f2ff6b2f410ae3a127a2a8e80b37cb2cb8844", func := "sackbut/sackbutlaw06.VoicesMetric", spec := "voicesMetric", unfollowed := true, recurses := true, apart := false, narrowed := true }
def VoicesMetricUptoSaid : Prop := voicesMetricUptoRow.holds Try.pinned (OpenSpec.upto voicesMetricSpec)

/-- 'sackbutlaw06.VoicesCalm', WHERE WHAT IT READS IS OF BULK AT MOST 1048576: true; the input reads as it did. -/
def voicesCalmUptoRow : OpenClaim := { program := "ytdnjbjcfbdclfaa", sum := "cb1e6c27c69b52eae0b83c3b3d9f2ff6b2f410ae3a127a2a8e80b37cb2cb8844", func := "sackbut/sackbutlaw06.VoicesCalm", spec := "voicesCalm", unfollowed := true, recurses := true, apart := false, narrowed := true }
def VoicesCalmUptoSaid : Prop := voicesCalmUptoRow.holds Try.pinned (OpenSpec.upto voicesCalmSpec)

/-- 'sackbutlaw06.VoicesPrices', WHERE WHAT IT READS IS OF BULK AT MOST 1048576: true; the input reads as it did. -/
def voicesPricesUptoRow : OpenClaim := { program := "ytdnjbjcfbdclfaa", sum := "cb1e6c27c69b52eae0b83c3b3d9f2ff6b2f410ae3a127a2a8e80b37cb2cb8844", func := "sackbut/sackbutlaw06.VoicesPrices", spec := "voicesPrices", unfollowed := true, recurses := true, apart := false, narrowed := true }
def VoicesPricesUptoSaid : Prop := voicesPricesUptoRow.holds Try.pinned (OpenSpec.upto voicesPricesSpec)

/-- 'sackbutlaw06.VoicesMiddle', WHERE WHAT IT READS IS OF BULK AT MOST 1048576: true; the input reads as it did. -/
def voicesMiddleUptoRow : OpenClaim := { program := "ytdnjbjcfbdclfaa", sum := "cb1e6c27c69b52eae0b83c3b3d9f2ff6b2f410ae3a127a2a8e80b37cb2cb8844", func := "sackbut/sackbutlaw06.VoicesMiddle", spec := "voicesMiddle", unfollowed := true, recurses := true, apart := false, narrowed := true }
def VoicesMiddleUptoSaid : Prop := voicesMiddleUptoRow.holds Try.pinned (OpenSpec.upto voicesMiddleSpec)

/-- 'sackbutlaw06.VoicesQuiet', WHERE WHAT IT READS IS OF BULK AT MOST 1048576: true; the input reads as it did. -/
def voicesQuietUptoRow : OpenClaim := { program := "ytdnjbjcfbdclfaa", sum := "cb1e6c27c69b52eae0b83c3b3d9f2ff6b2f410ae3a127a2a8e80b37cb2cb8844", func := "sackbut/sackbutlaw06.VoicesQuiet", spec := "voicesQuiet", unfollowed := true, recurses := true, apart := false, narrowed := true }
def VoicesQuietUptoSaid : Prop := voicesQuietUptoRow.holds Try.pinned (OpenSpec.upto voicesQuietSpec)

end Rows
end Go.Proofs.Ytdnjbjcfbdclfaa
