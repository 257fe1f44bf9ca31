/-
  DERIVED. GIVEN WITH THE SEED: THE CARDS: each row of YtipkapecgjpnlaaGreatDoorRows.lean that lists a variable, with what it lists TIED to the program's text (the seventh form; the later family's looks); each row that meets fmt, with fmt's text TOLD by the authors' own Lean function (tested against real Go, not proved from fmt's source: count such statements apart). THE CARD IS WHAT COUNTS. Prove the row's statement (the work); the ties are given (YtipkapecgjpnlaaGreatDoorTie.lean); close each card by the builder's one call (the guide's Derived/Test/ToyasCard.lean, 'card_holds'). Laid BY PROGRAM, IN A SANDBOX (cutbox-door.mjs). By AI agents, Wed Nov 11 2026. No macro, syntax, notation, axiom, sorry.
-/
import Derived.Test.YtipkapecgjpnlaaGreatDoorRows
import GoSem.ClaimSeven
namespace Go.Proofs.YtipkapecgjpnlaaGreatDoor
namespace Rows

/-- THE TIED CARD OF 'niblicklaw06.HandicapScores'. -/
def handicapScoresCard : Claim7 := { stood := { row := handicapScoresRow, standIns := [], harness := (true, "ddd5f1e21394390f1f78f9fbd1d432436feb214b1caad5d4b57e4eca6122e9af"), looks := true }, kinds := [], alts := [], laidByText := true, laidKinds := [.data, .data, .data, .data, .sentinel, .sentinel, .pinned], laidTests := true, laidLooks := .later }
def HandicapScoresCardSaid : Prop := Claim7.holds Tryz.pinned (.plain (OpenSpec.ofChange handicapScoresSpec)) handicapScoresCard

/-- THE TIED CARD OF 'niblicklaw06.HandicapMerges'. -/
def handicapMergesCard : Claim7 := { stood := { row := handicapMergesRow, standIns := [], harness := (true, "ddd5f1e21394390f1f78f9fbd1d432436feb214b1caad5d4b57e4eca6122e9af"), looks := true }, kinds := [], alts := [], laidByText := true, laidKinds := [.data, .data, .data, .data, .sentinel, .sentinel, .pinned], laidTests := true, laidLooks := .later }
def HandicapMergesCardSaid : Prop := Claim7.holds Tryz.pinned (.plain (OpenSpec.ofChange handicapMergesSpec)) handicapMergesCard

/-- THE TIED CARD OF 'niblicklaw06.HandicapCards'. -/
def handicapCardsCard : Claim7 := { stood := { row := handicapCardsRow, standIns := [], harness := (true, "ddd5f1e21394390f1f78f9fbd1d432436feb214b1caad5d4b57e4eca6122e9af"), looks := true }, kinds := [], alts := [], laidByText := true, laidKinds := [.data, .data, .data, .data, .sentinel, .sentinel, .pinned], laidTests := true, laidLooks := .later }
def HandicapCardsCardSaid : Prop := Claim7.holds Tryz.pinned (.plain (OpenSpec.ofChange handicapCardsSpec)) handicapCardsCard

/-- THE TIED CARD OF 'niblicklaw06.HandicapRounds'. -/
def handicapRoundsCard : Claim7 := { stood := { row := handicapRoundsRow, standIns := [], harness := (true, "ddd5f1e21394390f1f78f9fbd1d432436feb214b1caad5d4b57e4eca6122e9af"), looks := true }, kinds := [], alts := [], laidByText := true, laidKinds := [.data, .data, .data, .data, .sentinel, .sentinel, .pinned], laidTests := true, laidLooks := .later }
def HandicapRoundsCardSaid : Prop := Claim7.holds Tryz.pinned (.plain (OpenSpec.ofChange handicapRoundsSpec)) handicapRoundsCard

/-- THE SECOND FORM's CARD OF 'niblicklaw06.HandicapScores'. -/
def handicapScoresUptoCard : Claim7 := { stood := { row := handicapScoresUptoRow, standIns := [], harness := (true, "ddd5f1e21394390f1f78f9fbd1d432436feb214b1caad5d4b57e4eca6122e9af"), looks := true }, kinds := [], alts := [], laidByText := true, laidKinds := [.data, .data, .data, .data, .sentinel, .sentinel, .pinned], laidTests := true, laidLooks := .later }
def HandicapScoresUptoCardSaid : Prop := Claim7.holds Tryz.pinned (.plain (OpenSpec.upto handicapScoresSpec)) handicapScoresUptoCard

/-- THE SECOND FORM's CARD OF 'niblicklaw06.HandicapMerges'. -/
def handicapMergesUptoCard : Claim7 := { stood := { row := handicapMergesUptoRow, standIns := [], harness := (true, "ddd5f1e21394390f1f78f9fbd1d432436feb214b1caad5d4b57e4eca6122e9af"), looks := true }, kinds := [], alts := [], laidByText := true, laidKinds := [.data, .data, .data, .data, .sentinel, .sentinel, .pinned], laidTests := true, laidLooks := .later }
def HandicapMergesUptoCardSaid : Prop := Claim7.holds Tryz.pinned (.plain (OpenSpec.upto handicapMergesSpec)) handicapMergesUptoCard

/-- THE SECOND FORM's CARD OF 'niblicklaw06.HandicapCards'. -/
def handicapCardsUptoCard : Claim7 := { stood := { row := handicapCardsUptoRow, standIns := [], harness := (true, "ddd5f1e21394390f1f78f9fbd1d432436feb214b1caad5d4b57e4eca6122e9af"), looks := true }, kinds := [], alts := [], laidByText := true, laidKinds := [.data, .data, .data, .data, .sentinel, .sentinel, .pinned], laidTests := true, laidLooks := .later }
def HandicapCardsUptoCardSaid : Prop := Claim7.holds Tryz.pinned (.plain (OpenSpec.upto handicapCardsSpec)) handicapCardsUptoCard

/-- THE SECOND FORM's CARD OF 'niblicklaw06.HandicapRounds'. -/
def handicapRoundsUptoCard : Claim7 := { stood := { row := handicapRoundsUptoRow, standIns := [], harness := (true, "ddd5f1e21394390f1f78f9fbd1d432436feb214b1caad5d4b57e4eca6122e9af"), looks := true }, kinds := [], alts := [], laidByText := true, laidKinds := [.data, .data, .data, .data, .sentinel, .sentinel, .pinned], laidTests := true, laidLooks := .later }
def HandicapRoundsUptoCardSaid : Prop := Claim7.holds Tryz.pinned (.plain (OpenSpec.upto handicapRoundsSpec)) handicapRoundsUptoCard
end Rows
end Go.Proofs.YtipkapecgjpnlaaGreatDoor
