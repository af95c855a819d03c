/-
  DERIVED. GIVEN WITH THE SEED: THE CARDS: each row of YtkidgakjeahebaaDoorRows.lean that lists a variable, with what it lists TIED to the program's text (the seventh form; the later family's looks); each row that meets fmt, with fmt's text TOLD by the authors' own Lean function (tested against real Go, not proved from fmt's source: count such statements apart). THE CARD IS WHAT COUNTS. Prove the row's statement (the work); the ties are given (YtkidgakjeahebaaDoorTie.lean); close each card by the builder's one call (the guide's Derived/Test/ToyasCard.lean, 'card_holds'). Laid BY PROGRAM, IN A SANDBOX (cutbox-door.mjs). By AI agents, Wed Nov 11 2026. No macro, syntax, notation, axiom, sorry.
-/
import Derived.Test.YtkidgakjeahebaaDoorRows
import GoSem.ClaimSeven
namespace Go.Proofs.YtkidgakjeahebaaDoor
namespace Rows

/-- THE TIED CARD OF 'sackbutlaw02.CanonFolds'. -/
def canonFoldsCard : Claim7 := { stood := { row := canonFoldsRow, standIns := [], harness := (true, "2f6bef5c5cfa684a08fccc7872b5524e7a2ff07ef34c06b0423e6453ed67e790"), looks := false }, kinds := [], alts := [], laidByText := true, laidKinds := [.data, .data], laidTests := true, laidLooks := .later }
def CanonFoldsCardSaid : Prop := Claim7.holds Tryd.pinned (.plain (OpenSpec.ofChange canonFoldsSpec)) canonFoldsCard

/-- THE TIED CARD OF 'sackbutlaw02.CanonPartners'. -/
def canonPartnersCard : Claim7 := { stood := { row := canonPartnersRow, standIns := [], harness := (true, "2f6bef5c5cfa684a08fccc7872b5524e7a2ff07ef34c06b0423e6453ed67e790"), looks := false }, kinds := [], alts := [], laidByText := true, laidKinds := [.data, .data], laidTests := true, laidLooks := .later }
def CanonPartnersCardSaid : Prop := Claim7.holds Tryd.pinned (.plain (OpenSpec.ofChange canonPartnersSpec)) canonPartnersCard

/-- THE TIED CARD OF 'sackbutlaw02.CanonTurns'. -/
def canonTurnsCard : Claim7 := { stood := { row := canonTurnsRow, standIns := [], harness := (true, "2f6bef5c5cfa684a08fccc7872b5524e7a2ff07ef34c06b0423e6453ed67e790"), looks := false }, kinds := [], alts := [], laidByText := true, laidKinds := [.data, .data], laidTests := true, laidLooks := .later }
def CanonTurnsCardSaid : Prop := Claim7.holds Tryd.pinned (.plain (OpenSpec.ofChange canonTurnsSpec)) canonTurnsCard

/-- THE TIED CARD OF 'sackbutlaw02.CanonConditions'. -/
def canonConditionsCard : Claim7 := { stood := { row := canonConditionsRow, standIns := [], harness := (true, "2f6bef5c5cfa684a08fccc7872b5524e7a2ff07ef34c06b0423e6453ed67e790"), looks := false }, kinds := [], alts := [], laidByText := true, laidKinds := [.data, .data], laidTests := true, laidLooks := .later }
def CanonConditionsCardSaid : Prop := Claim7.holds Tryd.pinned (.plain (OpenSpec.ofChange canonConditionsSpec)) canonConditionsCard

/-- THE TIED CARD OF 'sackbutlaw02.CanonHajos'. -/
def canonHajosCard : Claim7 := { stood := { row := canonHajosRow, standIns := [], harness := (true, "2f6bef5c5cfa684a08fccc7872b5524e7a2ff07ef34c06b0423e6453ed67e790"), looks := false }, kinds := [], alts := [], laidByText := true, laidKinds := [.data, .data], laidTests := true, laidLooks := .later }
def CanonHajosCardSaid : Prop := Claim7.holds Tryd.pinned (.plain (OpenSpec.ofChange canonHajosSpec)) canonHajosCard

/-- THE TIED CARD OF 'sackbutlaw02.CanonLists'. -/
def canonListsCard : Claim7 := { stood := { row := canonListsRow, standIns := [], harness := (true, "2f6bef5c5cfa684a08fccc7872b5524e7a2ff07ef34c06b0423e6453ed67e790"), looks := false }, kinds := [], alts := [], laidByText := true, laidKinds := [.data, .data], laidTests := true, laidLooks := .later }
def CanonListsCardSaid : Prop := Claim7.holds Tryd.pinned (.plain (OpenSpec.ofChange canonListsSpec)) canonListsCard

/-- THE SECOND FORM's CARD OF 'sackbutlaw02.CanonFolds'. -/
def canonFoldsUptoCard : Claim7 := { stood := { row := canonFoldsUptoRow, standIns := [], harness := (true, "2f6bef5c5cfa684a08fccc7872b5524e7a2ff07ef34c06b0423e6453ed67e790"), looks := false }, kinds := [], alts := [], laidByText := true, laidKinds := [.data, .data], laidTests := true, laidLooks := .later }
def CanonFoldsUptoCardSaid : Prop := Claim7.holds Tryd.pinned (.plain (OpenSpec.upto canonFoldsSpec)) canonFoldsUptoCard

/-- THE SECOND FORM's CARD OF 'sackbutlaw02.CanonPartners'. -/
def canonPartnersUptoCard : Claim7 := { stood := { row := canonPartnersUptoRow, standIns := [], harness := (true, "2f6bef5c5cfa684a08fccc7872b5524e7a2ff07ef34c06b0423e6453ed67e790"), looks := false }, kinds := [], alts := [], laidByText := true, laidKinds := [.data, .data], laidTests := true, laidLooks := .later }
def CanonPartnersUptoCardSaid : Prop := Claim7.holds Tryd.pinned (.plain (OpenSpec.upto canonPartnersSpec)) canonPartnersUptoCard

/-- THE SECOND FORM's CARD OF 'sackbutlaw02.CanonTurns'. -/
def canonTurnsUptoCard : Claim7 := { stood := { row := canonTurnsUptoRow, standIns := [], harness := (true, "2f6bef5c5cfa684a08fccc7872b5524e7a2ff07ef34c06b0423e6453ed67e790"), looks := false }, kinds := [], alts := [], laidByText := true, laidKinds := [.data, .data], laidTests := true, laidLooks := .later }
def CanonTurnsUptoCardSaid : Prop := Claim7.holds Tryd.pinned (.plain (OpenSpec.upto canonTurnsSpec)) canonTurnsUptoCard

/-- THE SECOND FORM's CARD OF 'sackbutlaw02.CanonConditions'. -/
def canonConditionsUptoCard : Claim7 := { stood := { row := canonConditionsUptoRow, standIns := [], harness := (true, "2f6bef5c5cfa684a08fccc7872b5524e7a2ff07ef34c06b0423e6453ed67e790"), looks := false }, kinds := [], alts := [], laidByText := true, laidKinds := [.data, .data], laidTests := true, laidLooks := .later }
def CanonConditionsUptoCardSaid : Prop := Claim7.holds Tryd.pinned (.plain (OpenSpec.upto canonConditionsSpec)) canonConditionsUptoCard

/-- THE SECOND FORM's CARD OF 'sackbutlaw02.CanonHajos'. -/
def canonHajosUptoCard : Claim7 := { stood := { row := canonHajosUptoRow, standIns := [], harness := (true, "2f6bef5c5cfa684a08fccc7872b5524e7a2ff07ef34c06b0423e6453ed67e790"), looks := false }, kinds := [], alts := [], laidByText := true, laidKinds := [.data, .data], laidTests := true, laidLooks := .later }
def CanonHajosUptoCardSaid : Prop := Claim7.holds Tryd.pinned (.plain (OpenSpec.upto canonHajosSpec)) canonHajosUptoCard

/-- THE SECOND FORM's CARD OF 'sackbutlaw02.CanonLists'. -/
def canonListsUptoCard : Claim7 := { stood := { row := canonListsUptoRow, standIns := [], harness := (true, "2f6bef5c5cfa684a08fccc7872b5524e7a2ff07ef34c06b0423e6453ed67e790"), looks := false }, kinds := [], alts := [], laidByText := true, laidKinds := [.data, .data], laidTests := true, laidLooks := .later }
def CanonListsUptoCardSaid : Prop := Claim7.holds Tryd.pinned (.plain (OpenSpec.upto canonListsSpec)) canonListsUptoCard
end Rows
end Go.Proofs.YtkidgakjeahebaaDoor
