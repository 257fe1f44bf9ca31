/-
  DERIVED. GIVEN WITH THE SEED: THE CARDS: each row of YtknhdhchejmpgaaGreatDoorRows.lean that lists a variable, with what it lists TIED to the program's text (the seventh form; the later family's looks); each row that meets fmt, with fmt's text TOLD by the authors' own Lean function (tested against real Go, not proved from fmt's source: count such statements apart). THE CARD IS WHAT COUNTS. Prove the row's statement (the work); the ties are given (YtknhdhchejmpgaaGreatDoorTie.lean); close each card by the builder's one call (the guide's Derived/Test/ToyasCard.lean, 'card_holds'). Laid BY PROGRAM, IN A SANDBOX (cutbox-door.mjs). By AI agents, Wed Nov 11 2026. No macro, syntax, notation, axiom, sorry.
-/
import Derived.Test.YtknhdhchejmpgaaGreatDoorRows
import GoSem.ClaimSeven
namespace Go.Proofs.YtknhdhchejmpgaaGreatDoor
namespace Rows

/-- THE TIED CARD OF 'niblicklaw01.CardOperations'. -/
def cardOperationsCard : Claim7 := { stood := { row := cardOperationsRow, standIns := [], harness := (true, "3a2ee65c1da8d7241db81596f6095219e30242d81c162cb4551897e68b6d29b9"), looks := true }, kinds := [], alts := [], laidByText := true, laidKinds := [.data, .data, .data, .data, .sentinel, .sentinel, .pinned], laidTests := true, laidLooks := .later }
def CardOperationsCardSaid : Prop := Claim7.holds Tryz.pinned (.plain (OpenSpec.ofChange cardOperationsSpec)) cardOperationsCard

/-- THE TIED CARD OF 'niblicklaw01.CardField'. -/
def cardFieldCard : Claim7 := { stood := { row := cardFieldRow, standIns := [], harness := (true, "3a2ee65c1da8d7241db81596f6095219e30242d81c162cb4551897e68b6d29b9"), looks := true }, kinds := [], alts := [], laidByText := true, laidKinds := [.data, .data, .data, .data, .sentinel, .sentinel, .pinned], laidTests := true, laidLooks := .later }
def CardFieldCardSaid : Prop := Claim7.holds Tryz.pinned (.plain (OpenSpec.ofChange cardFieldSpec)) cardFieldCard

/-- THE TIED CARD OF 'niblicklaw01.CardUnits'. -/
def cardUnitsCard : Claim7 := { stood := { row := cardUnitsRow, standIns := [], harness := (true, "3a2ee65c1da8d7241db81596f6095219e30242d81c162cb4551897e68b6d29b9"), looks := true }, kinds := [], alts := [], laidByText := true, laidKinds := [.data, .data, .data, .data, .sentinel, .sentinel, .pinned], laidTests := true, laidLooks := .later }
def CardUnitsCardSaid : Prop := Claim7.holds Tryz.pinned (.plain (OpenSpec.ofChange cardUnitsSpec)) cardUnitsCard

/-- THE TIED CARD OF 'niblicklaw01.CardRounds'. -/
def cardRoundsCard : Claim7 := { stood := { row := cardRoundsRow, standIns := [], harness := (true, "3a2ee65c1da8d7241db81596f6095219e30242d81c162cb4551897e68b6d29b9"), looks := true }, kinds := [], alts := [], laidByText := true, laidKinds := [.data, .data, .data, .data, .sentinel, .sentinel, .pinned], laidTests := true, laidLooks := .later }
def CardRoundsCardSaid : Prop := Claim7.holds Tryz.pinned (.plain (OpenSpec.ofChange cardRoundsSpec)) cardRoundsCard

/-- THE TIED CARD OF 'niblicklaw01.CardNearest'. -/
def cardNearestCard : Claim7 := { stood := { row := cardNearestRow, standIns := [], harness := (true, "3a2ee65c1da8d7241db81596f6095219e30242d81c162cb4551897e68b6d29b9"), looks := true }, kinds := [], alts := [], laidByText := true, laidKinds := [.data, .data, .data, .data, .sentinel, .sentinel, .pinned], laidTests := true, laidLooks := .later }
def CardNearestCardSaid : Prop := Claim7.holds Tryz.pinned (.plain (OpenSpec.ofChange cardNearestSpec)) cardNearestCard

/-- THE TIED CARD OF 'niblicklaw01.CardTables'. -/
def cardTablesCard : Claim7 := { stood := { row := cardTablesRow, standIns := [], harness := (true, "3a2ee65c1da8d7241db81596f6095219e30242d81c162cb4551897e68b6d29b9"), looks := true }, kinds := [], alts := [], laidByText := true, laidKinds := [.data, .data, .data, .data, .sentinel, .sentinel, .pinned], laidTests := true, laidLooks := .later }
def CardTablesCardSaid : Prop := Claim7.holds Tryz.pinned (.plain (OpenSpec.ofChange cardTablesSpec)) cardTablesCard

/-- THE TIED CARD OF 'niblicklaw01.CardBetween'. -/
def cardBetweenCard : Claim7 := { stood := { row := cardBetweenRow, standIns := [], harness := (true, "3a2ee65c1da8d7241db81596f6095219e30242d81c162cb4551897e68b6d29b9"), looks := true }, kinds := [], alts := [], laidByText := true, laidKinds := [.data, .data, .data, .data, .sentinel, .sentinel, .pinned], laidTests := true, laidLooks := .later }
def CardBetweenCardSaid : Prop := Claim7.holds Tryz.pinned (.plain (OpenSpec.ofChange cardBetweenSpec)) cardBetweenCard

/-- THE TIED CARD OF 'niblicklaw01.CardParses'. -/
def cardParsesCard : Claim7 := { stood := { row := cardParsesRow, standIns := [], harness := (true, "3a2ee65c1da8d7241db81596f6095219e30242d81c162cb4551897e68b6d29b9"), looks := true }, kinds := [], alts := [], laidByText := true, laidKinds := [.data, .data, .data, .data, .sentinel, .sentinel, .pinned], laidTests := true, laidLooks := .later }
def CardParsesCardSaid : Prop := Claim7.holds Tryz.pinned (.plain (OpenSpec.ofChange cardParsesSpec)) cardParsesCard

/-- THE TIED CARD OF 'niblicklaw01.CardPrints'. -/
def cardPrintsCard : Claim7 := { stood := { row := cardPrintsRow, standIns := [], harness := (true, "3a2ee65c1da8d7241db81596f6095219e30242d81c162cb4551897e68b6d29b9"), looks := true }, kinds := [], alts := [], laidByText := true, laidKinds := [.data, .data, .data, .data, .sentinel, .sentinel, .pinned], laidTests := true, laidLooks := .later }
def CardPrintsCardSaid : Prop := Claim7.holds Tryz.pinned (.plain (OpenSpec.ofChange cardPrintsSpec)) cardPrintsCard

/-- THE TIED CARD OF 'niblicklaw01.CardReads'. -/
def cardReadsCard : Claim7 := { stood := { row := cardReadsRow, standIns := [], harness := (true, "3a2ee65c1da8d7241db81596f6095219e30242d81c162cb4551897e68b6d29b9"), looks := true }, kinds := [], alts := [], laidByText := true, laidKinds := [.data, .data, .data, .data, .sentinel, .sentinel, .pinned], laidTests := true, laidLooks := .later }
def CardReadsCardSaid : Prop := Claim7.holds Tryz.pinned (.plain (OpenSpec.ofChange cardReadsSpec)) cardReadsCard

/-- THE TIED CARD OF 'niblicklaw01.CardChances'. -/
def cardChancesCard : Claim7 := { stood := { row := cardChancesRow, standIns := [], harness := (true, "3a2ee65c1da8d7241db81596f6095219e30242d81c162cb4551897e68b6d29b9"), looks := true }, kinds := [], alts := [], laidByText := true, laidKinds := [.data, .data, .data, .data, .sentinel, .sentinel, .pinned], laidTests := true, laidLooks := .later }
def CardChancesCardSaid : Prop := Claim7.holds Tryz.pinned (.plain (OpenSpec.ofChange cardChancesSpec)) cardChancesCard

/-- THE TIED CARD OF 'niblicklaw01.CardSolves'. -/
def cardSolvesCard : Claim7 := { stood := { row := cardSolvesRow, standIns := [], harness := (true, "3a2ee65c1da8d7241db81596f6095219e30242d81c162cb4551897e68b6d29b9"), looks := true }, kinds := [], alts := [], laidByText := true, laidKinds := [.data, .data, .data, .data, .sentinel, .sentinel, .pinned], laidTests := true, laidLooks := .later }
def CardSolvesCardSaid : Prop := Claim7.holds Tryz.pinned (.plain (OpenSpec.ofChange cardSolvesSpec)) cardSolvesCard

/-- THE TIED CARD OF 'niblicklaw01.CardSums'. -/
def cardSumsCard : Claim7 := { stood := { row := cardSumsRow, standIns := [], harness := (true, "3a2ee65c1da8d7241db81596f6095219e30242d81c162cb4551897e68b6d29b9"), looks := true }, kinds := [], alts := [], laidByText := true, laidKinds := [.data, .data, .data, .data, .sentinel, .sentinel, .pinned], laidTests := true, laidLooks := .later }
def CardSumsCardSaid : Prop := Claim7.holds Tryz.pinned (.plain (OpenSpec.ofChange cardSumsSpec)) cardSumsCard

/-- THE SECOND FORM's CARD OF 'niblicklaw01.CardOperations'. -/
def cardOperationsUptoCard : Claim7 := { stood := { row := cardOperationsUptoRow, standIns := [], harness := (true, "3a2ee65c1da8d7241db81596f6095219e30242d81c162cb4551897e68b6d29b9"), looks := true }, kinds := [], alts := [], laidByText := true, laidKinds := [.data, .data, .data, .data, .sentinel, .sentinel, .pinned], laidTests := true, laidLooks := .later }
def CardOperationsUptoCardSaid : Prop := Claim7.holds Tryz.pinned (.plain (OpenSpec.upto cardOperationsSpec)) cardOperationsUptoCard

/-- THE SECOND FORM's CARD OF 'niblicklaw01.CardField'. -/
def cardFieldUptoCard : Claim7 := { stood := { row := cardFieldUptoRow, standIns := [], harness := (true, "3a2ee65c1da8d7241db81596f6095219e30242d81c162cb4551897e68b6d29b9"), looks := true }, kinds := [], alts := [], laidByText := true, laidKinds := [.data, .data, .data, .data, .sentinel, .sentinel, .pinned], laidTests := true, laidLooks := .later }
def CardFieldUptoCardSaid : Prop := Claim7.holds Tryz.pinned (.plain (OpenSpec.upto cardFieldSpec)) cardFieldUptoCard

/-- THE SECOND FORM's CARD OF 'niblicklaw01.CardUnits'. -/
def cardUnitsUptoCard : Claim7 := { stood := { row := cardUnitsUptoRow, standIns := [], harness := (true, "3a2ee65c1da8d7241db81596f6095219e30242d81c162cb4551897e68b6d29b9"), looks := true }, kinds := [], alts := [], laidByText := true, laidKinds := [.data, .data, .data, .data, .sentinel, .sentinel, .pinned], laidTests := true, laidLooks := .later }
def CardUnitsUptoCardSaid : Prop := Claim7.holds Tryz.pinned (.plain (OpenSpec.upto cardUnitsSpec)) cardUnitsUptoCard

/-- THE SECOND FORM's CARD OF 'niblicklaw01.CardRounds'. -/
def cardRoundsUptoCard : Claim7 := { stood := { row := cardRoundsUptoRow, standIns := [], harness := (true, "3a2ee65c1da8d7241db81596f6095219e30242d81c162cb4551897e68b6d29b9"), looks := true }, kinds := [], alts := [], laidByText := true, laidKinds := [.data, .data, .data, .data, .sentinel, .sentinel, .pinned], laidTests := true, laidLooks := .later }
def CardRoundsUptoCardSaid : Prop := Claim7.holds Tryz.pinned (.plain (OpenSpec.upto cardRoundsSpec)) cardRoundsUptoCard

/-- THE SECOND FORM's CARD OF 'niblicklaw01.CardNearest'. -/
def cardNearestUptoCard : Claim7 := { stood := { row := cardNearestUptoRow, standIns := [], harness := (true, "3a2ee65c1da8d7241db81596f6095219e30242d81c162cb4551897e68b6d29b9"), looks := true }, kinds := [], alts := [], laidByText := true, laidKinds := [.data, .data, .data, .data, .sentinel, .sentinel, .pinned], laidTests := true, laidLooks := .later }
def CardNearestUptoCardSaid : Prop := Claim7.holds Tryz.pinned (.plain (OpenSpec.upto cardNearestSpec)) cardNearestUptoCard

/-- THE SECOND FORM's CARD OF 'niblicklaw01.CardTables'. -/
def cardTablesUptoCard : Claim7 := { stood := { row := cardTablesUptoRow, standIns := [], harness := (true, "3a2ee65c1da8d7241db81596f6095219e30242d81c162cb4551897e68b6d29b9"), looks := true }, kinds := [], alts := [], laidByText := true, laidKinds := [.data, .data, .data, .data, .sentinel, .sentinel, .pinned], laidTests := true, laidLooks := .later }
def CardTablesUptoCardSaid : Prop := Claim7.holds Tryz.pinned (.plain (OpenSpec.upto cardTablesSpec)) cardTablesUptoCard

/-- THE SECOND FORM's CARD OF 'niblicklaw01.CardBetween'. -/
def cardBetweenUptoCard : Claim7 := { stood := { row := cardBetweenUptoRow, standIns := [], harness := (true, "3a2ee65c1da8d7241db81596f6095219e30242d81c162cb4551897e68b6d29b9"), looks := true }, kinds := [], alts := [], laidByText := true, laidKinds := [.data, .data, .data, .data, .sentinel, .sentinel, .pinned], laidTests := true, laidLooks := .later }
def CardBetweenUptoCardSaid : Prop := Claim7.holds Tryz.pinned (.plain (OpenSpec.upto cardBetweenSpec)) cardBetweenUptoCard

/-- THE SECOND FORM's CARD OF 'niblicklaw01.CardParses'. -/
def cardParsesUptoCard : Claim7 := { stood := { row := cardParsesUptoRow, standIns := [], harness := (true, "3a2ee65c1da8d7241db81596f6095219e30242d81c162cb4551897e68b6d29b9"), looks := true }, kinds := [], alts := [], laidByText := true, laidKinds := [.data, .data, .data, .data, .sentinel, .sentinel, .pinned], laidTests := true, laidLooks := .later }
def CardParsesUptoCardSaid : Prop := Claim7.holds Tryz.pinned (.plain (OpenSpec.upto cardParsesSpec)) cardParsesUptoCard

/-- THE SECOND FORM's CARD OF 'niblicklaw01.CardPrints'. -/
def cardPrintsUptoCard : Claim7 := { stood := { row := cardPrintsUptoRow, standIns := [], harness := (true, "3a2ee65c1da8d7241db81596f6095219e30242d81c162cb4551897e68b6d29b9"), looks := true }, kinds := [], alts := [], laidByText := true, laidKinds := [.data, .data, .data, .data, .sentinel, .sentinel, .pinned], laidTests := true, laidLooks := .later }
def CardPrintsUptoCardSaid : Prop := Claim7.holds Tryz.pinned (.plain (OpenSpec.upto cardPrintsSpec)) cardPrintsUptoCard

/-- THE SECOND FORM's CARD OF 'niblicklaw01.CardReads'. -/
def cardReadsUptoCard : Claim7 := { stood := { row := cardReadsUptoRow, standIns := [], harness := (true, "3a2ee65c1da8d7241db81596f6095219e30242d81c162cb4551897e68b6d29b9"), looks := true }, kinds := [], alts := [], laidByText := true, laidKinds := [.data, .data, .data, .data, .sentinel, .sentinel, .pinned], laidTests := true, laidLooks := .later }
def CardReadsUptoCardSaid : Prop := Claim7.holds Tryz.pinned (.plain (OpenSpec.upto cardReadsSpec)) cardReadsUptoCard

/-- THE SECOND FORM's CARD OF 'niblicklaw01.CardChances'. -/
def cardChancesUptoCard : Claim7 := { stood := { row := cardChancesUptoRow, standIns := [], harness := (true, "3a2ee65c1da8d7241db81596f6095219e30242d81c162cb4551897e68b6d29b9"), looks := true }, kinds := [], alts := [], laidByText := true, laidKinds := [.data, .data, .data, .data, .sentinel, .sentinel, .pinned], laidTests := true, laidLooks := .later }
def CardChancesUptoCardSaid : Prop := Claim7.holds Tryz.pinned (.plain (OpenSpec.upto cardChancesSpec)) cardChancesUptoCard

/-- THE SECOND FORM's CARD OF 'niblicklaw01.CardSolves'. -/
def cardSolvesUptoCard : Claim7 := { stood := { row := cardSolvesUptoRow, standIns := [], harness := (true, "3a2ee65c1da8d7241db81596f6095219e30242d81c162cb4551897e68b6d29b9"), looks := true }, kinds := [], alts := [], laidByText := true, laidKinds := [.data, .data, .data, .data, .sentinel, .sentinel, .pinned], laidTests := true, laidLooks := .later }
def CardSolvesUptoCardSaid : Prop := Claim7.holds Tryz.pinned (.plain (OpenSpec.upto cardSolvesSpec)) cardSolvesUptoCard

/-- THE SECOND FORM's CARD OF 'niblicklaw01.CardSums'. -/
def cardSumsUptoCard : Claim7 := { stood := { row := cardSumsUptoRow, standIns := [], harness := (true, "3a2ee65c1da8d7241db81596f6095219e30242d81c162cb4551897e68b6d29b9"), looks := true }, kinds := [], alts := [], laidByText := true, laidKinds := [.data, .data, .data, .data, .sentinel, .sentinel, .pinned], laidTests := true, laidLooks := .later }
def CardSumsUptoCardSaid : Prop := Claim7.holds Tryz.pinned (.plain (OpenSpec.upto cardSumsSpec)) cardSumsUptoCard
end Rows
end Go.Proofs.YtknhdhchejmpgaaGreatDoor
