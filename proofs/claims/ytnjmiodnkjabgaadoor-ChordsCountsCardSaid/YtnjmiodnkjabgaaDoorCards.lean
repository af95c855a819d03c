/-
  DERIVED. GIVEN WITH THE SEED: THE CARDS: each row of YtnjmiodnkjabgaaDoorRows.lean that lists a variable, with what it lists TIED to the program's text (the seventh form; the later family's looks); each row that meets fmt, with fmt's text TOLD by the authors' own Lean function (tested against real Go, not proved from fmt's source: count such statements apart). THE CARD IS WHAT COUNTS. Prove the row's statement (the work); the ties are given (YtnjmiodnkjabgaaDoorTie.lean); close each card by the builder's one call (the guide's Derived/Test/ToyasCard.lean, 'card_holds'). Laid BY PROGRAM, IN A SANDBOX (cutbox-door.mjs). By AI agents, Wed Nov 11 2026. No macro, syntax, notation, axiom, sorry.
-/
import Derived.Test.YtnjmiodnkjabgaaDoorRows
import GoSem.ClaimSeven
namespace Go.Proofs.YtnjmiodnkjabgaaDoor
namespace Rows

/-- THE TIED CARD OF 'sackbutlaw01.ChordsStill'. -/
def chordsStillCard : Claim7 := { stood := { row := chordsStillRow, standIns := [], harness := (true, "ac7f7780cdb4c7dbab2161a7813cee9650f1d8372274689d9bbe8f184084de4f"), looks := false }, kinds := [], alts := [], laidByText := true, laidKinds := [.data, .data], laidTests := true, laidLooks := .later }
def ChordsStillCardSaid : Prop := Claim7.holds Tryd.pinned (.plain (OpenSpec.ofChange chordsStillSpec)) chordsStillCard

/-- THE TIED CARD OF 'sackbutlaw01.ChordsMoves'. -/
def chordsMovesCard : Claim7 := { stood := { row := chordsMovesRow, standIns := [], harness := (true, "ac7f7780cdb4c7dbab2161a7813cee9650f1d8372274689d9bbe8f184084de4f"), looks := false }, kinds := [], alts := [], laidByText := true, laidKinds := [.data, .data], laidTests := true, laidLooks := .later }
def ChordsMovesCardSaid : Prop := Claim7.holds Tryd.pinned (.plain (OpenSpec.ofChange chordsMovesSpec)) chordsMovesCard

/-- THE TIED CARD OF 'sackbutlaw01.ChordsTimes'. -/
def chordsTimesCard : Claim7 := { stood := { row := chordsTimesRow, standIns := [], harness := (true, "ac7f7780cdb4c7dbab2161a7813cee9650f1d8372274689d9bbe8f184084de4f"), looks := false }, kinds := [], alts := [], laidByText := true, laidKinds := [.data, .data], laidTests := true, laidLooks := .later }
def ChordsTimesCardSaid : Prop := Claim7.holds Tryd.pinned (.plain (OpenSpec.ofChange chordsTimesSpec)) chordsTimesCard

/-- THE TIED CARD OF 'sackbutlaw01.ChordsWays'. -/
def chordsWaysCard : Claim7 := { stood := { row := chordsWaysRow, standIns := [], harness := (true, "ac7f7780cdb4c7dbab2161a7813cee9650f1d8372274689d9bbe8f184084de4f"), looks := false }, kinds := [], alts := [], laidByText := true, laidKinds := [.data, .data], laidTests := true, laidLooks := .later }
def ChordsWaysCardSaid : Prop := Claim7.holds Tryd.pinned (.plain (OpenSpec.ofChange chordsWaysSpec)) chordsWaysCard

/-- THE TIED CARD OF 'sackbutlaw01.ChordsPrimes'. -/
def chordsPrimesCard : Claim7 := { stood := { row := chordsPrimesRow, standIns := [], harness := (true, "ac7f7780cdb4c7dbab2161a7813cee9650f1d8372274689d9bbe8f184084de4f"), looks := false }, kinds := [], alts := [], laidByText := true, laidKinds := [.data, .data], laidTests := true, laidLooks := .later }
def ChordsPrimesCardSaid : Prop := Claim7.holds Tryd.pinned (.plain (OpenSpec.ofChange chordsPrimesSpec)) chordsPrimesCard

/-- THE TIED CARD OF 'sackbutlaw01.ChordsCounts'. -/
def chordsCountsCard : Claim7 := { stood := { row := chordsCountsRow, standIns := [], harness := (true, "ac7f7780cdb4c7dbab2161a7813cee9650f1d8372274689d9bbe8f184084de4f"), looks := false }, kinds := [], alts := [], laidByText := true, laidKinds := [.data, .data], laidTests := true, laidLooks := .later }
def ChordsCountsCardSaid : Prop := Claim7.holds Tryd.pinned (.plain (OpenSpec.ofChange chordsCountsSpec)) chordsCountsCard

/-- THE TIED CARD OF 'sackbutlaw01.ChordsImages'. -/
def chordsImagesCard : Claim7 := { stood := { row := chordsImagesRow, standIns := [], harness := (true, "ac7f7780cdb4c7dbab2161a7813cee9650f1d8372274689d9bbe8f184084de4f"), looks := false }, kinds := [], alts := [], laidByText := true, laidKinds := [.data, .data], laidTests := true, laidLooks := .later }
def ChordsImagesCardSaid : Prop := Claim7.holds Tryd.pinned (.plain (OpenSpec.ofChange chordsImagesSpec)) chordsImagesCard

/-- THE TIED CARD OF 'sackbutlaw01.ChordsLists'. -/
def chordsListsCard : Claim7 := { stood := { row := chordsListsRow, standIns := [], harness := (true, "ac7f7780cdb4c7dbab2161a7813cee9650f1d8372274689d9bbe8f184084de4f"), looks := false }, kinds := [], alts := [], laidByText := true, laidKinds := [.data, .data], laidTests := true, laidLooks := .later }
def ChordsListsCardSaid : Prop := Claim7.holds Tryd.pinned (.plain (OpenSpec.ofChange chordsListsSpec)) chordsListsCard

/-- THE TIED CARD OF 'sackbutlaw01.ChordsTwins'. -/
def chordsTwinsCard : Claim7 := { stood := { row := chordsTwinsRow, standIns := [], harness := (true, "ac7f7780cdb4c7dbab2161a7813cee9650f1d8372274689d9bbe8f184084de4f"), looks := false }, kinds := [], alts := [], laidByText := true, laidKinds := [.data, .data], laidTests := true, laidLooks := .later }
def ChordsTwinsCardSaid : Prop := Claim7.holds Tryd.pinned (.plain (OpenSpec.ofChange chordsTwinsSpec)) chordsTwinsCard

/-- THE SECOND FORM's CARD OF 'sackbutlaw01.ChordsStill'. -/
def chordsStillUptoCard : Claim7 := { stood := { row := chordsStillUptoRow, standIns := [], harness := (true, "ac7f7780cdb4c7dbab2161a7813cee9650f1d8372274689d9bbe8f184084de4f"), looks := false }, kinds := [], alts := [], laidByText := true, laidKinds := [.data, .data], laidTests := true, laidLooks := .later }
def ChordsStillUptoCardSaid : Prop := Claim7.holds Tryd.pinned (.plain (OpenSpec.upto chordsStillSpec)) chordsStillUptoCard

/-- THE SECOND FORM's CARD OF 'sackbutlaw01.ChordsMoves'. -/
def chordsMovesUptoCard : Claim7 := { stood := { row := chordsMovesUptoRow, standIns := [], harness := (true, "ac7f7780cdb4c7dbab2161a7813cee9650f1d8372274689d9bbe8f184084de4f"), looks := false }, kinds := [], alts := [], laidByText := true, laidKinds := [.data, .data], laidTests := true, laidLooks := .later }
def ChordsMovesUptoCardSaid : Prop := Claim7.holds Tryd.pinned (.plain (OpenSpec.upto chordsMovesSpec)) chordsMovesUptoCard

/-- THE SECOND FORM's CARD OF 'sackbutlaw01.ChordsTimes'. -/
def chordsTimesUptoCard : Claim7 := { stood := { row := chordsTimesUptoRow, standIns := [], harness := (true, "ac7f7780cdb4c7dbab2161a7813cee9650f1d8372274689d9bbe8f184084de4f"), looks := false }, kinds := [], alts := [], laidByText := true, laidKinds := [.data, .data], laidTests := true, laidLooks := .later }
def ChordsTimesUptoCardSaid : Prop := Claim7.holds Tryd.pinned (.plain (OpenSpec.upto chordsTimesSpec)) chordsTimesUptoCard

/-- THE SECOND FORM's CARD OF 'sackbutlaw01.ChordsWays'. -/
def chordsWaysUptoCard : Claim7 := { stood := { row := chordsWaysUptoRow, standIns := [], harness := (true, "ac7f7780cdb4c7dbab2161a7813cee9650f1d8372274689d9bbe8f184084de4f"), looks := false }, kinds := [], alts := [], laidByText := true, laidKinds := [.data, .data], laidTests := true, laidLooks := .later }
def ChordsWaysUptoCardSaid : Prop := Claim7.holds Tryd.pinned (.plain (OpenSpec.upto chordsWaysSpec)) chordsWaysUptoCard

/-- THE SECOND FORM's CARD OF 'sackbutlaw01.ChordsPrimes'. -/
def chordsPrimesUptoCard : Claim7 := { stood := { row := chordsPrimesUptoRow, standIns := [], harness := (true, "ac7f7780cdb4c7dbab2161a7813cee9650f1d8372274689d9bbe8f184084de4f"), looks := false }, kinds := [], alts := [], laidByText := true, laidKinds := [.data, .data], laidTests := true, laidLooks := .later }
def ChordsPrimesUptoCardSaid : Prop := Claim7.holds Tryd.pinned (.plain (OpenSpec.upto chordsPrimesSpec)) chordsPrimesUptoCard

/-- THE SECOND FORM's CARD OF 'sackbutlaw01.ChordsCounts'. -/
def chordsCountsUptoCard : Claim7 := { stood := { row := chordsCountsUptoRow, standIns := [], harness := (true, "ac7f7780cdb4c7dbab2161a7813cee9650f1d8372274689d9bbe8f184084de4f"), looks := false }, kinds := [], alts := [], laidByText := true, laidKinds := [.data, .data], laidTests := true, laidLooks := .later }
def ChordsCountsUptoCardSaid : Prop := Claim7.holds Tryd.pinned (.plain (OpenSpec.upto chordsCountsSpec)) chordsCountsUptoCard

/-- THE SECOND FORM's CARD OF 'sackbutlaw01.ChordsImages'. -/
def chordsImagesUptoCard : Claim7 := { stood := { row := chordsImagesUptoRow, standIns := [], harness := (true, "ac7f7780cdb4c7dbab2161a7813cee9650f1d8372274689d9bbe8f184084de4f"), looks := false }, kinds := [], alts := [], laidByText := true, laidKinds := [.data, .data], laidTests := true, laidLooks := .later }
def ChordsImagesUptoCardSaid : Prop := Claim7.holds Tryd.pinned (.plain (OpenSpec.upto chordsImagesSpec)) chordsImagesUptoCard

/-- THE SECOND FORM's CARD OF 'sackbutlaw01.ChordsLists'. -/
def chordsListsUptoCard : Claim7 := { stood := { row := chordsListsUptoRow, standIns := [], harness := (true, "ac7f7780cdb4c7dbab2161a7813cee9650f1d8372274689d9bbe8f184084de4f"), looks := false }, kinds := [], alts := [], laidByText := true, laidKinds := [.data, .data], laidTests := true, laidLooks := .later }
def ChordsListsUptoCardSaid : Prop := Claim7.holds Tryd.pinned (.plain (OpenSpec.upto chordsListsSpec)) chordsListsUptoCard

/-- THE SECOND FORM's CARD OF 'sackbutlaw01.ChordsTwins'. -/
def chordsTwinsUptoCard : Claim7 := { stood := { row := chordsTwinsUptoRow, standIns := [], harness := (true, "ac7f7780cdb4c7dbab2161a7813cee9650f1d8372274689d9bbe8f184084de4f"), looks := false }, kinds := [], alts := [], laidByText := true, laidKinds := [.data, .data], laidTests := true, laidLooks := .later }
def ChordsTwinsUptoCardSaid : Prop := Claim7.holds Tryd.pinned (.plain (OpenSpec.upto chordsTwinsSpec)) chordsTwinsUptoCard
end Rows
end Go.Proofs.YtnjmiodnkjabgaaDoor
