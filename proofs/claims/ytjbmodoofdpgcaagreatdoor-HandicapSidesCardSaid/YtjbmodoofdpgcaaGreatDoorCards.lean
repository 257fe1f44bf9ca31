/-
  DERIVED. GIVEN WITH THE SEED: THE CARDS: each row of YtjbmodoofdpgcaaGreatDoorRows.lean that lists a variable, with what it lists TIED to the program's text (the seventh form; the later family's looks); each row that meets fmt, with fmt's text TOLD by the authors' own Lean function (tested against real Go, not proved from fmt's source: count such statements apart). THE CARD IS WHAT COUNTS. Prove the row's statement (the work); the ties are given (YtjbmodoofdpgcaaGreatDoorTie.lean); close each card by the builder's one call (the guide's Derived/Test/ToyasCard.lean, 'card_holds'). Laid BY PROGRAM, IN A SANDBOX (cutbox-door.mjs). By AI agents, Wed Nov 11 2026. No macro, syntax, notation, axiom, sorry.
-/
import Derived.Test.YtjbmodoofdpgcaaGreatDoorRows
import GoSem.ClaimSeven
namespace Go.Proofs.YtjbmodoofdpgcaaGreatDoor
namespace Rows

/-- THE TIED CARD OF 'niblicklaw06.HandicapCourses'. -/
def handicapCoursesCard : Claim7 := { stood := { row := handicapCoursesRow, standIns := [], harness := (true, "c426f9265ea5c905de2087da606534288483df23ee9e0058507ff7f3adbec8bb"), looks := true }, kinds := [], alts := [], laidByText := true, laidKinds := [.data, .data, .data, .data, .sentinel, .sentinel, .pinned], laidTests := true, laidLooks := .later }
def HandicapCoursesCardSaid : Prop := Claim7.holds Tryz.pinned (.plain (OpenSpec.ofChange handicapCoursesSpec)) handicapCoursesCard

/-- THE TIED CARD OF 'niblicklaw06.HandicapSides'. -/
def handicapSidesCard : Claim7 := { stood := { row := handicapSidesRow, standIns := [], harness := (true, "c426f9265ea5c905de2087da606534288483df23ee9e0058507ff7f3adbec8bb"), looks := true }, kinds := [], alts := [], laidByText := true, laidKinds := [.data, .data, .data, .data, .sentinel, .sentinel, .pinned], laidTests := true, laidLooks := .later }
def HandicapSidesCardSaid : Prop := Claim7.holds Tryz.pinned (.plain (OpenSpec.ofChange handicapSidesSpec)) handicapSidesCard

/-- THE TIED CARD OF 'niblicklaw06.HandicapFair'. -/
def handicapFairCard : Claim7 := { stood := { row := handicapFairRow, standIns := [], harness := (true, "c426f9265ea5c905de2087da606534288483df23ee9e0058507ff7f3adbec8bb"), looks := true }, kinds := [], alts := [], laidByText := true, laidKinds := [.data, .data, .data, .data, .sentinel, .sentinel, .pinned], laidTests := true, laidLooks := .later }
def HandicapFairCardSaid : Prop := Claim7.holds Tryz.pinned (.plain (OpenSpec.ofChange handicapFairSpec)) handicapFairCard

/-- THE SECOND FORM's CARD OF 'niblicklaw06.HandicapCourses'. -/
def handicapCoursesUptoCard : Claim7 := { stood := { row := handicapCoursesUptoRow, standIns := [], harness := (true, "c426f9265ea5c905de2087da606534288483df23ee9e0058507ff7f3adbec8bb"), looks := true }, kinds := [], alts := [], laidByText := true, laidKinds := [.data, .data, .data, .data, .sentinel, .sentinel, .pinned], laidTests := true, laidLooks := .later }
def HandicapCoursesUptoCardSaid : Prop := Claim7.holds Tryz.pinned (.plain (OpenSpec.upto handicapCoursesSpec)) handicapCoursesUptoCard

/-- THE SECOND FORM's CARD OF 'niblicklaw06.HandicapSides'. -/
def handicapSidesUptoCard : Claim7 := { stood := { row := handicapSidesUptoRow, standIns := [], harness := (true, "c426f9265ea5c905de2087da606534288483df23ee9e0058507ff7f3adbec8bb"), looks := true }, kinds := [], alts := [], laidByText := true, laidKinds := [.data, .data, .data, .data, .sentinel, .sentinel, .pinned], laidTests := true, laidLooks := .later }
def HandicapSidesUptoCardSaid : Prop := Claim7.holds Tryz.pinned (.plain (OpenSpec.upto handicapSidesSpec)) handicapSidesUptoCard

/-- THE SECOND FORM's CARD OF 'niblicklaw06.HandicapFair'. -/
def handicapFairUptoCard : Claim7 := { stood := { row := handicapFairUptoRow, standIns := [], harness := (true, "c426f9265ea5c905de2087da606534288483df23ee9e0058507ff7f3adbec8bb"), looks := true }, kinds := [], alts := [], laidByText := true, laidKinds := [.data, .data, .data, .data, .sentinel, .sentinel, .pinned], laidTests := true, laidLooks := .later }
def HandicapFairUptoCardSaid : Prop := Claim7.holds Tryz.pinned (.plain (OpenSpec.upto handicapFairSpec)) handicapFairUptoCard
end Rows
end Go.Proofs.YtjbmodoofdpgcaaGreatDoor
