/-
  DERIVED. GIVEN WITH THE SEED: THE CARDS: each row of YtlapcggejnojjaaGreatDoorRows.lean that lists a variable, with what it lists TIED to the program's text (the seventh form; the later family's looks); each row that meets fmt, with fmt's text TOLD by the authors' own Lean function (tested against real Go, not proved from fmt's source: count such statements apart). THE CARD IS WHAT COUNTS. Prove the row's statement (the work); the ties are given (YtlapcggejnojjaaGreatDoorTie.lean); close each card by the builder's one call (the guide's Derived/Test/ToyasCard.lean, 'card_holds'). Laid BY PROGRAM, IN A SANDBOX (cutbox-door.mjs). By AI agents, Wed Nov 11 2026. No macro, syntax, notation, axiom, sorry.
-/
import Derived.Test.YtlapcggejnojjaaGreatDoorRows
import GoSem.ClaimSeven
namespace Go.Proofs.YtlapcggejnojjaaGreatDoor
namespace Rows

/-- THE TIED CARD OF 'niblicklaw01.CardForms'. -/
def cardFormsCard : Claim7 := { stood := { row := cardFormsRow, standIns := [], harness := (true, "7149a58fcdc82c3e94668b10b16d4032a7f22a30319cbc977531ac3990ee79c4"), looks := true }, kinds := [], alts := [], laidByText := true, laidKinds := [.data, .data, .data, .data, .sentinel, .sentinel, .pinned], laidTests := true, laidLooks := .later }
def CardFormsCardSaid : Prop := Claim7.holds Tryz.pinned (.plain (OpenSpec.ofChange cardFormsSpec)) cardFormsCard

/-- THE TIED CARD OF 'niblicklaw01.CardShares'. -/
def cardSharesCard : Claim7 := { stood := { row := cardSharesRow, standIns := [], harness := (true, "7149a58fcdc82c3e94668b10b16d4032a7f22a30319cbc977531ac3990ee79c4"), looks := true }, kinds := [], alts := [], laidByText := true, laidKinds := [.data, .data, .data, .data, .sentinel, .sentinel, .pinned], laidTests := true, laidLooks := .later }
def CardSharesCardSaid : Prop := Claim7.holds Tryz.pinned (.plain (OpenSpec.ofChange cardSharesSpec)) cardSharesCard

/-- THE TIED CARD OF 'niblicklaw01.CardFair'. -/
def cardFairCard : Claim7 := { stood := { row := cardFairRow, standIns := [], harness := (true, "7149a58fcdc82c3e94668b10b16d4032a7f22a30319cbc977531ac3990ee79c4"), looks := true }, kinds := [], alts := [], laidByText := true, laidKinds := [.data, .data, .data, .data, .sentinel, .sentinel, .pinned], laidTests := true, laidLooks := .later }
def CardFairCardSaid : Prop := Claim7.holds Tryz.pinned (.plain (OpenSpec.ofChange cardFairSpec)) cardFairCard

/-- THE TIED CARD OF 'niblicklaw01.CardHoles'. -/
def cardHolesCard : Claim7 := { stood := { row := cardHolesRow, standIns := [], harness := (true, "7149a58fcdc82c3e94668b10b16d4032a7f22a30319cbc977531ac3990ee79c4"), looks := true }, kinds := [], alts := [], laidByText := true, laidKinds := [.data, .data, .data, .data, .sentinel, .sentinel, .pinned], laidTests := true, laidLooks := .later }
def CardHolesCardSaid : Prop := Claim7.holds Tryz.pinned (.plain (OpenSpec.ofChange cardHolesSpec)) cardHolesCard

/-- THE SECOND FORM's CARD OF 'niblicklaw01.CardForms'. -/
def cardFormsUptoCard : Claim7 := { stood := { row := cardFormsUptoRow, standIns := [], harness := (true, "7149a58fcdc82c3e94668b10b16d4032a7f22a30319cbc977531ac3990ee79c4"), looks := true }, kinds := [], alts := [], laidByText := true, laidKinds := [.data, .data, .data, .data, .sentinel, .sentinel, .pinned], laidTests := true, laidLooks := .later }
def CardFormsUptoCardSaid : Prop := Claim7.holds Tryz.pinned (.plain (OpenSpec.upto cardFormsSpec)) cardFormsUptoCard

/-- THE SECOND FORM's CARD OF 'niblicklaw01.CardShares'. -/
def cardSharesUptoCard : Claim7 := { stood := { row := cardSharesUptoRow, standIns := [], harness := (true, "7149a58fcdc82c3e94668b10b16d4032a7f22a30319cbc977531ac3990ee79c4"), looks := true }, kinds := [], alts := [], laidByText := true, laidKinds := [.data, .data, .data, .data, .sentinel, .sentinel, .pinned], laidTests := true, laidLooks := .later }
def CardSharesUptoCardSaid : Prop := Claim7.holds Tryz.pinned (.plain (OpenSpec.upto cardSharesSpec)) cardSharesUptoCard

/-- THE SECOND FORM's CARD OF 'niblicklaw01.CardFair'. -/
def cardFairUptoCard : Claim7 := { stood := { row := cardFairUptoRow, standIns := [], harness := (true, "7149a58fcdc82c3e94668b10b16d4032a7f22a30319cbc977531ac3990ee79c4"), looks := true }, kinds := [], alts := [], laidByText := true, laidKinds := [.data, .data, .data, .data, .sentinel, .sentinel, .pinned], laidTests := true, laidLooks := .later }
def CardFairUptoCardSaid : Prop := Claim7.holds Tryz.pinned (.plain (OpenSpec.upto cardFairSpec)) cardFairUptoCard

/-- THE SECOND FORM's CARD OF 'niblicklaw01.CardHoles'. -/
def cardHolesUptoCard : Claim7 := { stood := { row := cardHolesUptoRow, standIns := [], harness := (true, "7149a58fcdc82c3e94668b10b16d4032a7f22a30319cbc977531ac3990ee79c4"), looks := true }, kinds := [], alts := [], laidByText := true, laidKinds := [.data, .data, .data, .data, .sentinel, .sentinel, .pinned], laidTests := true, laidLooks := .later }
def CardHolesUptoCardSaid : Prop := Claim7.holds Tryz.pinned (.plain (OpenSpec.upto cardHolesSpec)) cardHolesUptoCard
end Rows
end Go.Proofs.YtlapcggejnojjaaGreatDoor
