/-
  DERIVED. GIVEN WITH THE SEED: THE CARDS: each row of YtjbmodoofdpgcabGreatDoorRows.lean that lists a variable, with what it lists TIED to the program's text (the seventh form; the later family's looks); each row that meets fmt, with fmt's text TOLD by the authors' own Lean function (tested against real Go, not proved from fmt's source: count such statements apart). THE CARD IS WHAT COUNTS. Prove the row's statement (the work); the ties are given (YtjbmodoofdpgcabGreatDoorTie.lean); close each card by the builder's one call (the guide's Derived/Test/ToyasCard.lean, 'card_holds'). Laid BY PROGRAM, IN A SANDBOX (cutbox-door.mjs). By AI agents, Wed Nov 11 2026. No macro, syntax, notation, axiom, sorry.
-/
import Derived.Test.YtjbmodoofdpgcabGreatDoorRows
import GoSem.ClaimSeven
namespace Go.Proofs.YtjbmodoofdpgcabGreatDoor
namespace Rows

/-- THE TIED CARD OF 'niblicklaw07.EventQualifies'. -/
def eventQualifiesCard : Claim7 := { stood := { row := eventQualifiesRow, standIns := [], harness := (true, "4a9f5274c0c9b0155f586a1a2b45095a26a8557f9ff07b3e59c02762acf5a13f"), looks := true }, kinds := [], alts := [], laidByText := true, laidKinds := [.data, .data, .data, .data, .sentinel, .sentinel, .pinned], laidTests := true, laidLooks := .later }
def EventQualifiesCardSaid : Prop := Claim7.holds Tryz.pinned (.plain (OpenSpec.ofChange eventQualifiesSpec)) eventQualifiesCard

/-- THE SECOND FORM's CARD OF 'niblicklaw07.EventQualifies'. -/
def eventQualifiesUptoCard : Claim7 := { stood := { row := eventQualifiesUptoRow, standIns := [], harness := (true, "4a9f5274c0c9b0155f586a1a2b45095a26a8557f9ff07b3e59c02762acf5a13f"), looks := true }, kinds := [], alts := [], laidByText := true, laidKinds := [.data, .data, .data, .data, .sentinel, .sentinel, .pinned], laidTests := true, laidLooks := .later }
def EventQualifiesUptoCardSaid : Prop := Claim7.holds Tryz.pinned (.plain (OpenSpec.upto eventQualifiesSpec)) eventQualifiesUptoCard
end Rows
end Go.Proofs.YtjbmodoofdpgcabGreatDoor
