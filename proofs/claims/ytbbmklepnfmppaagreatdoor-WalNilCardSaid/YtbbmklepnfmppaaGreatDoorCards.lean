/-
  DERIVED. GIVEN WITH THE SEED: THE CARDS: each row of YtbbmklepnfmppaaGreatDoorRows.lean that lists a variable, with what it lists TIED to the program's text (the seventh form; the later family's looks); each row that meets fmt, with fmt's text TOLD by the authors' own Lean function (tested against real Go, not proved from fmt's source: count such statements apart). THE CARD IS WHAT COUNTS. Prove the row's statement (the work); the ties are given (YtbbmklepnfmppaaGreatDoorTie.lean); close each card by the builder's one call (the guide's Derived/Test/ToyasCard.lean, 'card_holds'). Laid BY PROGRAM, IN A SANDBOX (cutbox-door.mjs). By AI agents, Wed Nov 11 2026. No macro, syntax, notation, axiom, sorry.
-/
import Derived.Test.YtbbmklepnfmppaaGreatDoorRows
import GoSem.ClaimSeven
namespace Go.Proofs.YtbbmklepnfmppaaGreatDoor
namespace Rows

/-- THE TIED CARD OF 'munimentlaw12.WalFull'. -/
def walFullCard : Claim7 := { stood := { row := walFullRow, standIns := [], harness := (true, "7f7567ca2bb2acc92d452b796f1b461ac4fb86302e6c104f713b3ff013fadc28"), looks := true }, kinds := [], alts := [], laidByText := true, laidKinds := [.data, .data, .data, .sentinel, .sentinel], laidTests := true, laidLooks := .later }
def WalFullCardSaid : Prop := Claim7.holds Tryz.pinned (.plain (OpenSpec.ofChange walFullSpec)) walFullCard

/-- THE TIED CARD OF 'munimentlaw12.WalPlays'. -/
def walPlaysCard : Claim7 := { stood := { row := walPlaysRow, standIns := [], harness := (true, "7f7567ca2bb2acc92d452b796f1b461ac4fb86302e6c104f713b3ff013fadc28"), looks := true }, kinds := [], alts := [], laidByText := true, laidKinds := [.data, .data, .data, .sentinel, .sentinel], laidTests := true, laidLooks := .later }
def WalPlaysCardSaid : Prop := Claim7.holds Tryz.pinned (.plain (OpenSpec.ofChange walPlaysSpec)) walPlaysCard

/-- THE TIED CARD OF 'munimentlaw12.WalSegments'. -/
def walSegmentsCard : Claim7 := { stood := { row := walSegmentsRow, standIns := [], harness := (true, "7f7567ca2bb2acc92d452b796f1b461ac4fb86302e6c104f713b3ff013fadc28"), looks := true }, kinds := [], alts := [], laidByText := true, laidKinds := [.data, .data, .data, .sentinel, .sentinel], laidTests := true, laidLooks := .later }
def WalSegmentsCardSaid : Prop := Claim7.holds Tryz.pinned (.plain (OpenSpec.ofChange walSegmentsSpec)) walSegmentsCard

/-- THE TIED CARD OF 'munimentlaw12.WalNil'. -/
def walNilCard : Claim7 := { stood := { row := walNilRow, standIns := [], harness := (true, "7f7567ca2bb2acc92d452b796f1b461ac4fb86302e6c104f713b3ff013fadc28"), looks := true }, kinds := [], alts := [], laidByText := true, laidKinds := [.data, .data, .data, .sentinel, .sentinel], laidTests := true, laidLooks := .later }
def WalNilCardSaid : Prop := Claim7.holds Tryz.pinned (.plain (OpenSpec.ofChange walNilSpec)) walNilCard

/-- THE TIED CARD OF 'munimentlaw12.WalFalls'. -/
def walFallsCard : Claim7 := { stood := { row := walFallsRow, standIns := [], harness := (true, "7f7567ca2bb2acc92d452b796f1b461ac4fb86302e6c104f713b3ff013fadc28"), looks := true }, kinds := [], alts := [], laidByText := true, laidKinds := [.data, .data, .data, .sentinel, .sentinel], laidTests := true, laidLooks := .later }
def WalFallsCardSaid : Prop := Claim7.holds Tryz.pinned (.plain (OpenSpec.ofChange walFallsSpec)) walFallsCard

/-- THE TIED CARD OF 'munimentlaw12.WalOpens'. -/
def walOpensCard : Claim7 := { stood := { row := walOpensRow, standIns := [], harness := (true, "7f7567ca2bb2acc92d452b796f1b461ac4fb86302e6c104f713b3ff013fadc28"), looks := true }, kinds := [], alts := [], laidByText := true, laidKinds := [.data, .data, .data, .sentinel, .sentinel], laidTests := true, laidLooks := .later }
def WalOpensCardSaid : Prop := Claim7.holds Tryz.pinned (.plain (OpenSpec.ofChange walOpensSpec)) walOpensCard

/-- THE SECOND FORM's CARD OF 'munimentlaw12.WalFull'. -/
def walFullUptoCard : Claim7 := { stood := { row := walFullUptoRow, standIns := [], harness := (true, "7f7567ca2bb2acc92d452b796f1b461ac4fb86302e6c104f713b3ff013fadc28"), looks := true }, kinds := [], alts := [], laidByText := true, laidKinds := [.data, .data, .data, .sentinel, .sentinel], laidTests := true, laidLooks := .later }
def WalFullUptoCardSaid : Prop := Claim7.holds Tryz.pinned (.plain (OpenSpec.upto walFullSpec)) walFullUptoCard

/-- THE SECOND FORM's CARD OF 'munimentlaw12.WalPlays'. -/
def walPlaysUptoCard : Claim7 := { stood := { row := walPlaysUptoRow, standIns := [], harness := (true, "7f7567ca2bb2acc92d452b796f1b461ac4fb86302e6c104f713b3ff013fadc28"), looks := true }, kinds := [], alts := [], laidByText := true, laidKinds := [.data, .data, .data, .sentinel, .sentinel], laidTests := true, laidLooks := .later }
def WalPlaysUptoCardSaid : Prop := Claim7.holds Tryz.pinned (.plain (OpenSpec.upto walPlaysSpec)) walPlaysUptoCard

/-- THE SECOND FORM's CARD OF 'munimentlaw12.WalSegments'. -/
def walSegmentsUptoCard : Claim7 := { stood := { row := walSegmentsUptoRow, standIns := [], harness := (true, "7f7567ca2bb2acc92d452b796f1b461ac4fb86302e6c104f713b3ff013fadc28"), looks := true }, kinds := [], alts := [], laidByText := true, laidKinds := [.data, .data, .data, .sentinel, .sentinel], laidTests := true, laidLooks := .later }
def WalSegmentsUptoCardSaid : Prop := Claim7.holds Tryz.pinned (.plain (OpenSpec.upto walSegmentsSpec)) walSegmentsUptoCard

/-- THE SECOND FORM's CARD OF 'munimentlaw12.WalNil'. -/
def walNilUptoCard : Claim7 := { stood := { row := walNilUptoRow, standIns := [], harness := (true, "7f7567ca2bb2acc92d452b796f1b461ac4fb86302e6c104f713b3ff013fadc28"), looks := true }, kinds := [], alts := [], laidByText := true, laidKinds := [.data, .data, .data, .sentinel, .sentinel], laidTests := true, laidLooks := .later }
def WalNilUptoCardSaid : Prop := Claim7.holds Tryz.pinned (.plain (OpenSpec.upto walNilSpec)) walNilUptoCard

/-- THE SECOND FORM's CARD OF 'munimentlaw12.WalFalls'. -/
def walFallsUptoCard : Claim7 := { stood := { row := walFallsUptoRow, standIns := [], harness := (true, "7f7567ca2bb2acc92d452b796f1b461ac4fb86302e6c104f713b3ff013fadc28"), looks := true }, kinds := [], alts := [], laidByText := true, laidKinds := [.data, .data, .data, .sentinel, .sentinel], laidTests := true, laidLooks := .later }
def WalFallsUptoCardSaid : Prop := Claim7.holds Tryz.pinned (.plain (OpenSpec.upto walFallsSpec)) walFallsUptoCard

/-- THE SECOND FORM's CARD OF 'munimentlaw12.WalOpens'. -/
def walOpensUptoCard : Claim7 := { stood := { row := walOpensUptoRow, standIns := [], harness := (true, "7f7567ca2bb2acc92d452b796f1b461ac4fb86302e6c104f713b3ff013fadc28"), looks := true }, kinds := [], alts := [], laidByText := true, laidKinds := [.data, .data, .data, .sentinel, .sentinel], laidTests := true, laidLooks := .later }
def WalOpensUptoCardSaid : Prop := Claim7.holds Tryz.pinned (.plain (OpenSpec.upto walOpensSpec)) walOpensUptoCard
end Rows
end Go.Proofs.YtbbmklepnfmppaaGreatDoor
