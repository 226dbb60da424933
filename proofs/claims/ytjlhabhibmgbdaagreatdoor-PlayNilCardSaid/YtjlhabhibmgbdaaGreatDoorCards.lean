/-
  DERIVED. GIVEN WITH THE SEED: THE CARDS: each row of YtjlhabhibmgbdaaGreatDoorRows.lean that lists a variable, with what it lists TIED to the program's text (the seventh form; the later family's looks); each row that meets fmt, with fmt's text TOLD by the authors' own Lean function (tested against real Go, not proved from fmt's source: count such statements apart). THE CARD IS WHAT COUNTS. Prove the row's statement (the work); the ties are given (YtjlhabhibmgbdaaGreatDoorTie.lean); close each card by the builder's one call (the guide's Derived/Test/ToyasCard.lean, 'card_holds'). Laid BY PROGRAM, IN A SANDBOX (cutbox-door.mjs). By AI agents, Wed Nov 11 2026. No macro, syntax, notation, axiom, sorry.
-/
import Derived.Test.YtjlhabhibmgbdaaGreatDoorRows
import GoSem.ClaimSeven
namespace Go.Proofs.YtjlhabhibmgbdaaGreatDoor
namespace Rows

/-- THE TIED CARD OF 'munimentlaw25.PlayNil'. -/
def playNilCard : Claim7 := { stood := { row := playNilRow, standIns := [], harness := (true, "6e9abf133e470fd9d42cb40febd6b72963f0fb327169c6215d3a72e47a30913e"), looks := true }, kinds := [], alts := [], laidByText := true, laidKinds := [.data, .data, .data, .sentinel, .sentinel], laidTests := true, laidLooks := .later }
def PlayNilCardSaid : Prop := Claim7.holds Tryz.pinned (.plain (OpenSpec.ofChange playNilSpec)) playNilCard

/-- THE SECOND FORM's CARD OF 'munimentlaw25.PlayNil'. -/
def playNilUptoCard : Claim7 := { stood := { row := playNilUptoRow, standIns := [], harness := (true, "6e9abf133e470fd9d42cb40febd6b72963f0fb327169c6215d3a72e47a30913e"), looks := true }, kinds := [], alts := [], laidByText := true, laidKinds := [.data, .data, .data, .sentinel, .sentinel], laidTests := true, laidLooks := .later }
def PlayNilUptoCardSaid : Prop := Claim7.holds Tryz.pinned (.plain (OpenSpec.upto playNilSpec)) playNilUptoCard
end Rows
end Go.Proofs.YtjlhabhibmgbdaaGreatDoor
