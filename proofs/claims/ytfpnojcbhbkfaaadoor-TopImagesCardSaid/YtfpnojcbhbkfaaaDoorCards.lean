/-
  DERIVED. GIVEN WITH THE SEED: THE CARDS: each row of YtfpnojcbhbkfaaaDoorRows.lean that lists a variable, with what it lists TIED to the program's text (the seventh form; the later family's looks); each row that meets fmt, with fmt's text TOLD by the authors' own Lean function (tested against real Go, not proved from fmt's source: count such statements apart). THE CARD IS WHAT COUNTS. Prove the row's statement (the work); the ties are given (YtfpnojcbhbkfaaaDoorTie.lean); close each card by the builder's one call (the guide's Derived/Test/ToyasCard.lean, 'card_holds'). Laid BY PROGRAM, IN A SANDBOX (cutbox-door.mjs). By AI agents, Wed Nov 11 2026. No macro, syntax, notation, axiom, sorry.
-/
import Derived.Test.YtfpnojcbhbkfaaaDoorRows
import GoSem.ClaimSeven
namespace Go.Proofs.YtfpnojcbhbkfaaaDoor
namespace Rows

/-- THE TIED CARD OF 'sackbuttop.TopHalves'. -/
def topHalvesCard : Claim7 := { stood := { row := topHalvesRow, standIns := [], harness := (true, "497fa162678a0729af37f63795fa21e285c2430cc1eb41f0044b46e86bdcb108"), looks := false }, kinds := [], alts := [], laidByText := true, laidKinds := [.data, .data], laidTests := true, laidLooks := .later }
def TopHalvesCardSaid : Prop := Claim7.holds Tryd.pinned (.plain (OpenSpec.ofChange topHalvesSpec)) topHalvesCard

/-- THE TIED CARD OF 'sackbuttop.TopGrid'. -/
def topGridCard : Claim7 := { stood := { row := topGridRow, standIns := [], harness := (true, "497fa162678a0729af37f63795fa21e285c2430cc1eb41f0044b46e86bdcb108"), looks := false }, kinds := [], alts := [], laidByText := true, laidKinds := [.data, .data], laidTests := true, laidLooks := .later }
def TopGridCardSaid : Prop := Claim7.holds Tryd.pinned (.plain (OpenSpec.ofChange topGridSpec)) topGridCard

/-- THE TIED CARD OF 'sackbuttop.TopVoiced'. -/
def topVoicedCard : Claim7 := { stood := { row := topVoicedRow, standIns := [], harness := (true, "497fa162678a0729af37f63795fa21e285c2430cc1eb41f0044b46e86bdcb108"), looks := false }, kinds := [], alts := [], laidByText := true, laidKinds := [.data, .pinned], laidTests := true, laidLooks := .later }
def TopVoicedCardSaid : Prop := Claim7.holds Tryd.pinned (.plain (OpenSpec.ofChange topVoicedSpec)) topVoicedCard

/-- THE TIED CARD OF 'sackbuttop.TopImages'. -/
def topImagesCard : Claim7 := { stood := { row := topImagesRow, standIns := [], harness := (true, "497fa162678a0729af37f63795fa21e285c2430cc1eb41f0044b46e86bdcb108"), looks := false }, kinds := [], alts := [], laidByText := true, laidKinds := [.data, .data], laidTests := true, laidLooks := .later }
def TopImagesCardSaid : Prop := Claim7.holds Tryd.pinned (.plain (OpenSpec.ofChange topImagesSpec)) topImagesCard

/-- THE TIED CARD OF 'sackbuttop.TopNear'. -/
def topNearCard : Claim7 := { stood := { row := topNearRow, standIns := [], harness := (true, "497fa162678a0729af37f63795fa21e285c2430cc1eb41f0044b46e86bdcb108"), looks := false }, kinds := [], alts := [], laidByText := true, laidKinds := [.data, .data], laidTests := true, laidLooks := .later }
def TopNearCardSaid : Prop := Claim7.holds Tryd.pinned (.plain (OpenSpec.ofChange topNearSpec)) topNearCard

/-- THE SECOND FORM's CARD OF 'sackbuttop.TopHalves'. -/
def topHalvesUptoCard : Claim7 := { stood := { row := topHalvesUptoRow, standIns := [], harness := (true, "497fa162678a0729af37f63795fa21e285c2430cc1eb41f0044b46e86bdcb108"), looks := false }, kinds := [], alts := [], laidByText := true, laidKinds := [.data, .data], laidTests := true, laidLooks := .later }
def TopHalvesUptoCardSaid : Prop := Claim7.holds Tryd.pinned (.plain (OpenSpec.upto topHalvesSpec)) topHalvesUptoCard

/-- THE SECOND FORM's CARD OF 'sackbuttop.TopGrid'. -/
def topGridUptoCard : Claim7 := { stood := { row := topGridUptoRow, standIns := [], harness := (true, "497fa162678a0729af37f63795fa21e285c2430cc1eb41f0044b46e86bdcb108"), looks := false }, kinds := [], alts := [], laidByText := true, laidKinds := [.data, .data], laidTests := true, laidLooks := .later }
def TopGridUptoCardSaid : Prop := Claim7.holds Tryd.pinned (.plain (OpenSpec.upto topGridSpec)) topGridUptoCard

/-- THE SECOND FORM's CARD OF 'sackbuttop.TopVoiced'. -/
def topVoicedUptoCard : Claim7 := { stood := { row := topVoicedUptoRow, standIns := [], harness := (true, "497fa162678a0729af37f63795fa21e285c2430cc1eb41f0044b46e86bdcb108"), looks := false }, kinds := [], alts := [], laidByText := true, laidKinds := [.data, .pinned], laidTests := true, laidLooks := .later }
def TopVoicedUptoCardSaid : Prop := Claim7.holds Tryd.pinned (.plain (OpenSpec.upto topVoicedSpec)) topVoicedUptoCard

/-- THE SECOND FORM's CARD OF 'sackbuttop.TopImages'. -/
def topImagesUptoCard : Claim7 := { stood := { row := topImagesUptoRow, standIns := [], harness := (true, "497fa162678a0729af37f63795fa21e285c2430cc1eb41f0044b46e86bdcb108"), looks := false }, kinds := [], alts := [], laidByText := true, laidKinds := [.data, .data], laidTests := true, laidLooks := .later }
def TopImagesUptoCardSaid : Prop := Claim7.holds Tryd.pinned (.plain (OpenSpec.upto topImagesSpec)) topImagesUptoCard

/-- THE SECOND FORM's CARD OF 'sackbuttop.TopNear'. -/
def topNearUptoCard : Claim7 := { stood := { row := topNearUptoRow, standIns := [], harness := (true, "497fa162678a0729af37f63795fa21e285c2430cc1eb41f0044b46e86bdcb108"), looks := false }, kinds := [], alts := [], laidByText := true, laidKinds := [.data, .data], laidTests := true, laidLooks := .later }
def TopNearUptoCardSaid : Prop := Claim7.holds Tryd.pinned (.plain (OpenSpec.upto topNearSpec)) topNearUptoCard
end Rows
end Go.Proofs.YtfpnojcbhbkfaaaDoor
