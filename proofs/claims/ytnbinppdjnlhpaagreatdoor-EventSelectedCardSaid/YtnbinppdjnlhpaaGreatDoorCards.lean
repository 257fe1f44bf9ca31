/-
  DERIVED. GIVEN WITH THE SEED: THE CARDS: each row of YtnbinppdjnlhpaaGreatDoorRows.lean that lists a variable, with what it lists TIED to the program's text (the seventh form; the later family's looks); each row that meets fmt, with fmt's text TOLD by the authors' own Lean function (tested against real Go, not proved from fmt's source: count such statements apart). THE CARD IS WHAT COUNTS. Prove the row's statement (the work); the ties are given (YtnbinppdjnlhpaaGreatDoorTie.lean); close each card by the builder's one call (the guide's Derived/Test/ToyasCard.lean, 'card_holds'). Laid BY PROGRAM, IN A SANDBOX (cutbox-door.mjs). By AI agents, Wed Nov 11 2026. No macro, syntax, notation, axiom, sorry.
-/
import Derived.Test.YtnbinppdjnlhpaaGreatDoorRows
import GoSem.ClaimSeven
namespace Go.Proofs.YtnbinppdjnlhpaaGreatDoor
namespace Rows

/-- THE TIED CARD OF 'niblicklaw07.EventBallots'. -/
def eventBallotsCard : Claim7 := { stood := { row := eventBallotsRow, standIns := [], harness := (true, "ca4de927605739dbd0f388f336a4b27f1bc61830a9137d1692965ff0f3fcc6bc"), looks := true }, kinds := [], alts := [], laidByText := true, laidKinds := [.data, .data, .data, .data, .sentinel, .sentinel, .pinned], laidTests := true, laidLooks := .later }
def EventBallotsCardSaid : Prop := Claim7.holds Tryz.pinned (.plain (OpenSpec.ofChange eventBallotsSpec)) eventBallotsCard

/-- THE TIED CARD OF 'niblicklaw07.EventSubstitutes'. -/
def eventSubstitutesCard : Claim7 := { stood := { row := eventSubstitutesRow, standIns := [], harness := (true, "ca4de927605739dbd0f388f336a4b27f1bc61830a9137d1692965ff0f3fcc6bc"), looks := true }, kinds := [], alts := [], laidByText := true, laidKinds := [.data, .data, .data, .data, .sentinel, .sentinel, .pinned], laidTests := true, laidLooks := .later }
def EventSubstitutesCardSaid : Prop := Claim7.holds Tryz.pinned (.plain (OpenSpec.ofChange eventSubstitutesSpec)) eventSubstitutesCard

/-- THE TIED CARD OF 'niblicklaw07.EventQualifies'. -/
def eventQualifiesCard : Claim7 := { stood := { row := eventQualifiesRow, standIns := [], harness := (true, "ca4de927605739dbd0f388f336a4b27f1bc61830a9137d1692965ff0f3fcc6bc"), looks := true }, kinds := [], alts := [], laidByText := true, laidKinds := [.data, .data, .data, .data, .sentinel, .sentinel, .pinned], laidTests := true, laidLooks := .later }
def EventQualifiesCardSaid : Prop := Claim7.holds Tryz.pinned (.plain (OpenSpec.ofChange eventQualifiesSpec)) eventQualifiesCard

/-- THE TIED CARD OF 'niblicklaw07.EventDraws'. -/
def eventDrawsCard : Claim7 := { stood := { row := eventDrawsRow, standIns := [], harness := (true, "ca4de927605739dbd0f388f336a4b27f1bc61830a9137d1692965ff0f3fcc6bc"), looks := true }, kinds := [], alts := [], laidByText := true, laidKinds := [.data, .data, .data, .data, .sentinel, .sentinel, .pinned], laidTests := true, laidLooks := .later }
def EventDrawsCardSaid : Prop := Claim7.holds Tryz.pinned (.plain (OpenSpec.ofChange eventDrawsSpec)) eventDrawsCard

/-- THE TIED CARD OF 'niblicklaw07.EventPlaces'. -/
def eventPlacesCard : Claim7 := { stood := { row := eventPlacesRow, standIns := [], harness := (true, "ca4de927605739dbd0f388f336a4b27f1bc61830a9137d1692965ff0f3fcc6bc"), looks := true }, kinds := [], alts := [], laidByText := true, laidKinds := [.data, .data, .data, .data, .sentinel, .sentinel, .pinned], laidTests := true, laidLooks := .later }
def EventPlacesCardSaid : Prop := Claim7.holds Tryz.pinned (.plain (OpenSpec.ofChange eventPlacesSpec)) eventPlacesCard

/-- THE TIED CARD OF 'niblicklaw07.EventSelected'. -/
def eventSelectedCard : Claim7 := { stood := { row := eventSelectedRow, standIns := [], harness := (true, "ca4de927605739dbd0f388f336a4b27f1bc61830a9137d1692965ff0f3fcc6bc"), looks := true }, kinds := [], alts := [], laidByText := true, laidKinds := [.data, .data, .data, .data, .sentinel, .sentinel, .pinned], laidTests := true, laidLooks := .later }
def EventSelectedCardSaid : Prop := Claim7.holds Tryz.pinned (.plain (OpenSpec.ofChange eventSelectedSpec)) eventSelectedCard

/-- THE TIED CARD OF 'niblicklaw07.EventSeeded'. -/
def eventSeededCard : Claim7 := { stood := { row := eventSeededRow, standIns := [], harness := (true, "ca4de927605739dbd0f388f336a4b27f1bc61830a9137d1692965ff0f3fcc6bc"), looks := true }, kinds := [], alts := [], laidByText := true, laidKinds := [.data, .data, .data, .data, .sentinel, .sentinel, .pinned], laidTests := true, laidLooks := .later }
def EventSeededCardSaid : Prop := Claim7.holds Tryz.pinned (.plain (OpenSpec.ofChange eventSeededSpec)) eventSeededCard

/-- THE TIED CARD OF 'niblicklaw07.EventPays'. -/
def eventPaysCard : Claim7 := { stood := { row := eventPaysRow, standIns := [], harness := (true, "ca4de927605739dbd0f388f336a4b27f1bc61830a9137d1692965ff0f3fcc6bc"), looks := true }, kinds := [], alts := [], laidByText := true, laidKinds := [.data, .data, .data, .data, .sentinel, .sentinel, .pinned], laidTests := true, laidLooks := .later }
def EventPaysCardSaid : Prop := Claim7.holds Tryz.pinned (.plain (OpenSpec.ofChange eventPaysSpec)) eventPaysCard

/-- THE TIED CARD OF 'niblicklaw07.EventAccepts'. -/
def eventAcceptsCard : Claim7 := { stood := { row := eventAcceptsRow, standIns := [], harness := (true, "ca4de927605739dbd0f388f336a4b27f1bc61830a9137d1692965ff0f3fcc6bc"), looks := true }, kinds := [], alts := [], laidByText := true, laidKinds := [.data, .data, .data, .data, .sentinel, .sentinel, .pinned], laidTests := true, laidLooks := .later }
def EventAcceptsCardSaid : Prop := Claim7.holds Tryz.pinned (.plain (OpenSpec.ofChange eventAcceptsSpec)) eventAcceptsCard

/-- THE TIED CARD OF 'niblicklaw07.EventRuns'. -/
def eventRunsCard : Claim7 := { stood := { row := eventRunsRow, standIns := [], harness := (true, "ca4de927605739dbd0f388f336a4b27f1bc61830a9137d1692965ff0f3fcc6bc"), looks := true }, kinds := [], alts := [], laidByText := true, laidKinds := [.data, .data, .data, .data, .sentinel, .sentinel, .pinned], laidTests := true, laidLooks := .later }
def EventRunsCardSaid : Prop := Claim7.holds Tryz.pinned (.plain (OpenSpec.ofChange eventRunsSpec)) eventRunsCard

/-- THE TIED CARD OF 'niblicklaw07.EventCuts'. -/
def eventCutsCard : Claim7 := { stood := { row := eventCutsRow, standIns := [], harness := (true, "ca4de927605739dbd0f388f336a4b27f1bc61830a9137d1692965ff0f3fcc6bc"), looks := true }, kinds := [], alts := [], laidByText := true, laidKinds := [.data, .data, .data, .data, .sentinel, .sentinel, .pinned], laidTests := true, laidLooks := .later }
def EventCutsCardSaid : Prop := Claim7.holds Tryz.pinned (.plain (OpenSpec.ofChange eventCutsSpec)) eventCutsCard

/-- THE TIED CARD OF 'niblicklaw07.EventWidens'. -/
def eventWidensCard : Claim7 := { stood := { row := eventWidensRow, standIns := [], harness := (true, "ca4de927605739dbd0f388f336a4b27f1bc61830a9137d1692965ff0f3fcc6bc"), looks := true }, kinds := [], alts := [], laidByText := true, laidKinds := [.data, .data, .data, .data, .sentinel, .sentinel, .pinned], laidTests := true, laidLooks := .later }
def EventWidensCardSaid : Prop := Claim7.holds Tryz.pinned (.plain (OpenSpec.ofChange eventWidensSpec)) eventWidensCard

/-- THE TIED CARD OF 'niblicklaw07.EventPrizes'. -/
def eventPrizesCard : Claim7 := { stood := { row := eventPrizesRow, standIns := [], harness := (true, "ca4de927605739dbd0f388f336a4b27f1bc61830a9137d1692965ff0f3fcc6bc"), looks := true }, kinds := [], alts := [], laidByText := true, laidKinds := [.data, .data, .data, .data, .sentinel, .sentinel, .pinned], laidTests := true, laidLooks := .later }
def EventPrizesCardSaid : Prop := Claim7.holds Tryz.pinned (.plain (OpenSpec.ofChange eventPrizesSpec)) eventPrizesCard

/-- THE TIED CARD OF 'niblicklaw07.EventCorrects'. -/
def eventCorrectsCard : Claim7 := { stood := { row := eventCorrectsRow, standIns := [], harness := (true, "ca4de927605739dbd0f388f336a4b27f1bc61830a9137d1692965ff0f3fcc6bc"), looks := true }, kinds := [], alts := [], laidByText := true, laidKinds := [.data, .data, .data, .data, .sentinel, .sentinel, .pinned], laidTests := true, laidLooks := .later }
def EventCorrectsCardSaid : Prop := Claim7.holds Tryz.pinned (.plain (OpenSpec.ofChange eventCorrectsSpec)) eventCorrectsCard

/-- THE SECOND FORM's CARD OF 'niblicklaw07.EventBallots'. -/
def eventBallotsUptoCard : Claim7 := { stood := { row := eventBallotsUptoRow, standIns := [], harness := (true, "ca4de927605739dbd0f388f336a4b27f1bc61830a9137d1692965ff0f3fcc6bc"), looks := true }, kinds := [], alts := [], laidByText := true, laidKinds := [.data, .data, .data, .data, .sentinel, .sentinel, .pinned], laidTests := true, laidLooks := .later }
def EventBallotsUptoCardSaid : Prop := Claim7.holds Tryz.pinned (.plain (OpenSpec.upto eventBallotsSpec)) eventBallotsUptoCard

/-- THE SECOND FORM's CARD OF 'niblicklaw07.EventSubstitutes'. -/
def eventSubstitutesUptoCard : Claim7 := { stood := { row := eventSubstitutesUptoRow, standIns := [], harness := (true, "ca4de927605739dbd0f388f336a4b27f1bc61830a9137d1692965ff0f3fcc6bc"), looks := true }, kinds := [], alts := [], laidByText := true, laidKinds := [.data, .data, .data, .data, .sentinel, .sentinel, .pinned], laidTests := true, laidLooks := .later }
def EventSubstitutesUptoCardSaid : Prop := Claim7.holds Tryz.pinned (.plain (OpenSpec.upto eventSubstitutesSpec)) eventSubstitutesUptoCard

/-- THE SECOND FORM's CARD OF 'niblicklaw07.EventQualifies'. -/
def eventQualifiesUptoCard : Claim7 := { stood := { row := eventQualifiesUptoRow, standIns := [], harness := (true, "ca4de927605739dbd0f388f336a4b27f1bc61830a9137d1692965ff0f3fcc6bc"), looks := true }, kinds := [], alts := [], laidByText := true, laidKinds := [.data, .data, .data, .data, .sentinel, .sentinel, .pinned], laidTests := true, laidLooks := .later }
def EventQualifiesUptoCardSaid : Prop := Claim7.holds Tryz.pinned (.plain (OpenSpec.upto eventQualifiesSpec)) eventQualifiesUptoCard

/-- THE SECOND FORM's CARD OF 'niblicklaw07.EventDraws'. -/
def eventDrawsUptoCard : Claim7 := { stood := { row := eventDrawsUptoRow, standIns := [], harness := (true, "ca4de927605739dbd0f388f336a4b27f1bc61830a9137d1692965ff0f3fcc6bc"), looks := true }, kinds := [], alts := [], laidByText := true, laidKinds := [.data, .data, .data, .data, .sentinel, .sentinel, .pinned], laidTests := true, laidLooks := .later }
def EventDrawsUptoCardSaid : Prop := Claim7.holds Tryz.pinned (.plain (OpenSpec.upto eventDrawsSpec)) eventDrawsUptoCard

/-- THE SECOND FORM's CARD OF 'niblicklaw07.EventPlaces'. -/
def eventPlacesUptoCard : Claim7 := { stood := { row := eventPlacesUptoRow, standIns := [], harness := (true, "ca4de927605739dbd0f388f336a4b27f1bc61830a9137d1692965ff0f3fcc6bc"), looks := true }, kinds := [], alts := [], laidByText := true, laidKinds := [.data, .data, .data, .data, .sentinel, .sentinel, .pinned], laidTests := true, laidLooks := .later }
def EventPlacesUptoCardSaid : Prop := Claim7.holds Tryz.pinned (.plain (OpenSpec.upto eventPlacesSpec)) eventPlacesUptoCard

/-- THE SECOND FORM's CARD OF 'niblicklaw07.EventSelected'. -/
def eventSelectedUptoCard : Claim7 := { stood := { row := eventSelectedUptoRow, standIns := [], harness := (true, "ca4de927605739dbd0f388f336a4b27f1bc61830a9137d1692965ff0f3fcc6bc"), looks := true }, kinds := [], alts := [], laidByText := true, laidKinds := [.data, .data, .data, .data, .sentinel, .sentinel, .pinned], laidTests := true, laidLooks := .later }
def EventSelectedUptoCardSaid : Prop := Claim7.holds Tryz.pinned (.plain (OpenSpec.upto eventSelectedSpec)) eventSelectedUptoCard

/-- THE SECOND FORM's CARD OF 'niblicklaw07.EventSeeded'. -/
def eventSeededUptoCard : Claim7 := { stood := { row := eventSeededUptoRow, standIns := [], harness := (true, "ca4de927605739dbd0f388f336a4b27f1bc61830a9137d1692965ff0f3fcc6bc"), looks := true }, kinds := [], alts := [], laidByText := true, laidKinds := [.data, .data, .data, .data, .sentinel, .sentinel, .pinned], laidTests := true, laidLooks := .later }
def EventSeededUptoCardSaid : Prop := Claim7.holds Tryz.pinned (.plain (OpenSpec.upto eventSeededSpec)) eventSeededUptoCard

/-- THE SECOND FORM's CARD OF 'niblicklaw07.EventPays'. -/
def eventPaysUptoCard : Claim7 := { stood := { row := eventPaysUptoRow, standIns := [], harness := (true, "ca4de927605739dbd0f388f336a4b27f1bc61830a9137d1692965ff0f3fcc6bc"), looks := true }, kinds := [], alts := [], laidByText := true, laidKinds := [.data, .data, .data, .data, .sentinel, .sentinel, .pinned], laidTests := true, laidLooks := .later }
def EventPaysUptoCardSaid : Prop := Claim7.holds Tryz.pinned (.plain (OpenSpec.upto eventPaysSpec)) eventPaysUptoCard

/-- THE SECOND FORM's CARD OF 'niblicklaw07.EventAccepts'. -/
def eventAcceptsUptoCard : Claim7 := { stood := { row := eventAcceptsUptoRow, standIns := [], harness := (true, "ca4de927605739dbd0f388f336a4b27f1bc61830a9137d1692965ff0f3fcc6bc"), looks := true }, kinds := [], alts := [], laidByText := true, laidKinds := [.data, .data, .data, .data, .sentinel, .sentinel, .pinned], laidTests := true, laidLooks := .later }
def EventAcceptsUptoCardSaid : Prop := Claim7.holds Tryz.pinned (.plain (OpenSpec.upto eventAcceptsSpec)) eventAcceptsUptoCard

/-- THE SECOND FORM's CARD OF 'niblicklaw07.EventRuns'. -/
def eventRunsUptoCard : Claim7 := { stood := { row := eventRunsUptoRow, standIns := [], harness := (true, "ca4de927605739dbd0f388f336a4b27f1bc61830a9137d1692965ff0f3fcc6bc"), looks := true }, kinds := [], alts := [], laidByText := true, laidKinds := [.data, .data, .data, .data, .sentinel, .sentinel, .pinned], laidTests := true, laidLooks := .later }
def EventRunsUptoCardSaid : Prop := Claim7.holds Tryz.pinned (.plain (OpenSpec.upto eventRunsSpec)) eventRunsUptoCard

/-- THE SECOND FORM's CARD OF 'niblicklaw07.EventCuts'. -/
def eventCutsUptoCard : Claim7 := { stood := { row := eventCutsUptoRow, standIns := [], harness := (true, "ca4de927605739dbd0f388f336a4b27f1bc61830a9137d1692965ff0f3fcc6bc"), looks := true }, kinds := [], alts := [], laidByText := true, laidKinds := [.data, .data, .data, .data, .sentinel, .sentinel, .pinned], laidTests := true, laidLooks := .later }
def EventCutsUptoCardSaid : Prop := Claim7.holds Tryz.pinned (.plain (OpenSpec.upto eventCutsSpec)) eventCutsUptoCard

/-- THE SECOND FORM's CARD OF 'niblicklaw07.EventWidens'. -/
def eventWidensUptoCard : Claim7 := { stood := { row := eventWidensUptoRow, standIns := [], harness := (true, "ca4de927605739dbd0f388f336a4b27f1bc61830a9137d1692965ff0f3fcc6bc"), looks := true }, kinds := [], alts := [], laidByText := true, laidKinds := [.data, .data, .data, .data, .sentinel, .sentinel, .pinned], laidTests := true, laidLooks := .later }
def EventWidensUptoCardSaid : Prop := Claim7.holds Tryz.pinned (.plain (OpenSpec.upto eventWidensSpec)) eventWidensUptoCard

/-- THE SECOND FORM's CARD OF 'niblicklaw07.EventPrizes'. -/
def eventPrizesUptoCard : Claim7 := { stood := { row := eventPrizesUptoRow, standIns := [], harness := (true, "ca4de927605739dbd0f388f336a4b27f1bc61830a9137d1692965ff0f3fcc6bc"), looks := true }, kinds := [], alts := [], laidByText := true, laidKinds := [.data, .data, .data, .data, .sentinel, .sentinel, .pinned], laidTests := true, laidLooks := .later }
def EventPrizesUptoCardSaid : Prop := Claim7.holds Tryz.pinned (.plain (OpenSpec.upto eventPrizesSpec)) eventPrizesUptoCard

/-- THE SECOND FORM's CARD OF 'niblicklaw07.EventCorrects'. -/
def eventCorrectsUptoCard : Claim7 := { stood := { row := eventCorrectsUptoRow, standIns := [], harness := (true, "ca4de927605739dbd0f388f336a4b27f1bc61830a9137d1692965ff0f3fcc6bc"), looks := true }, kinds := [], alts := [], laidByText := true, laidKinds := [.data, .data, .data, .data, .sentinel, .sentinel, .pinned], laidTests := true, laidLooks := .later }
def EventCorrectsUptoCardSaid : Prop := Claim7.holds Tryz.pinned (.plain (OpenSpec.upto eventCorrectsSpec)) eventCorrectsUptoCard
end Rows
end Go.Proofs.YtnbinppdjnlhpaaGreatDoor
