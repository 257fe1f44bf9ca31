/-
  DERIVED. GIVEN WITH THE SEED: THE CARDS: each row of YtlohiljbghionaaGreatDoorRows.lean that lists a variable, with what it lists TIED to the program's text (the seventh form; the later family's looks); each row that meets fmt, with fmt's text TOLD by the authors' own Lean function (tested against real Go, not proved from fmt's source: count such statements apart). THE CARD IS WHAT COUNTS. Prove the row's statement (the work); the ties are given (YtlohiljbghionaaGreatDoorTie.lean); close each card by the builder's one call (the guide's Derived/Test/ToyasCard.lean, 'card_holds'). Laid BY PROGRAM, IN A SANDBOX (cutbox-door.mjs). By AI agents, Wed Nov 11 2026. No macro, syntax, notation, axiom, sorry.
-/
import Derived.Test.YtlohiljbghionaaGreatDoorRows
import GoSem.ClaimSeven
namespace Go.Proofs.YtlohiljbghionaaGreatDoor
namespace Rows

/-- THE TIED CARD OF 'niblicklaw03.RatingCourses'. -/
def ratingCoursesCard : Claim7 := { stood := { row := ratingCoursesRow, standIns := [], harness := (true, "4b8c5625713f700e21bfdb91e55307d14d4ce8bad068603c2f00cd8cb9be31d0"), looks := true }, kinds := [], alts := [], laidByText := true, laidKinds := [.data, .data, .data, .data, .sentinel, .sentinel, .pinned], laidTests := true, laidLooks := .later }
def RatingCoursesCardSaid : Prop := Claim7.holds Tryz.pinned (.plain (OpenSpec.ofChange ratingCoursesSpec)) ratingCoursesCard

/-- THE TIED CARD OF 'niblicklaw03.RatingLengths'. -/
def ratingLengthsCard : Claim7 := { stood := { row := ratingLengthsRow, standIns := [], harness := (true, "4b8c5625713f700e21bfdb91e55307d14d4ce8bad068603c2f00cd8cb9be31d0"), looks := true }, kinds := [], alts := [], laidByText := true, laidKinds := [.data, .data, .data, .data, .sentinel, .sentinel, .pinned], laidTests := true, laidLooks := .later }
def RatingLengthsCardSaid : Prop := Claim7.holds Tryz.pinned (.plain (OpenSpec.ofChange ratingLengthsSpec)) ratingLengthsCard

/-- THE TIED CARD OF 'niblicklaw03.RatingHoles'. -/
def ratingHolesCard : Claim7 := { stood := { row := ratingHolesRow, standIns := [], harness := (true, "4b8c5625713f700e21bfdb91e55307d14d4ce8bad068603c2f00cd8cb9be31d0"), looks := true }, kinds := [], alts := [], laidByText := true, laidKinds := [.data, .data, .data, .data, .sentinel, .sentinel, .pinned], laidTests := true, laidLooks := .later }
def RatingHolesCardSaid : Prop := Claim7.holds Tryz.pinned (.plain (OpenSpec.ofChange ratingHolesSpec)) ratingHolesCard

/-- THE TIED CARD OF 'niblicklaw03.RatingReaches'. -/
def ratingReachesCard : Claim7 := { stood := { row := ratingReachesRow, standIns := [], harness := (true, "4b8c5625713f700e21bfdb91e55307d14d4ce8bad068603c2f00cd8cb9be31d0"), looks := true }, kinds := [], alts := [], laidByText := true, laidKinds := [.data, .data, .data, .data, .sentinel, .sentinel, .pinned], laidTests := true, laidLooks := .later }
def RatingReachesCardSaid : Prop := Claim7.holds Tryz.pinned (.plain (OpenSpec.ofChange ratingReachesSpec)) ratingReachesCard

/-- THE TIED CARD OF 'niblicklaw03.RatingHarder'. -/
def ratingHarderCard : Claim7 := { stood := { row := ratingHarderRow, standIns := [], harness := (true, "4b8c5625713f700e21bfdb91e55307d14d4ce8bad068603c2f00cd8cb9be31d0"), looks := true }, kinds := [], alts := [], laidByText := true, laidKinds := [.data, .data, .data, .data, .sentinel, .sentinel, .pinned], laidTests := true, laidLooks := .later }
def RatingHarderCardSaid : Prop := Claim7.holds Tryz.pinned (.plain (OpenSpec.ofChange ratingHarderSpec)) ratingHarderCard

/-- THE SECOND FORM's CARD OF 'niblicklaw03.RatingCourses'. -/
def ratingCoursesUptoCard : Claim7 := { stood := { row := ratingCoursesUptoRow, standIns := [], harness := (true, "4b8c5625713f700e21bfdb91e55307d14d4ce8bad068603c2f00cd8cb9be31d0"), looks := true }, kinds := [], alts := [], laidByText := true, laidKinds := [.data, .data, .data, .data, .sentinel, .sentinel, .pinned], laidTests := true, laidLooks := .later }
def RatingCoursesUptoCardSaid : Prop := Claim7.holds Tryz.pinned (.plain (OpenSpec.upto ratingCoursesSpec)) ratingCoursesUptoCard

/-- THE SECOND FORM's CARD OF 'niblicklaw03.RatingLengths'. -/
def ratingLengthsUptoCard : Claim7 := { stood := { row := ratingLengthsUptoRow, standIns := [], harness := (true, "4b8c5625713f700e21bfdb91e55307d14d4ce8bad068603c2f00cd8cb9be31d0"), looks := true }, kinds := [], alts := [], laidByText := true, laidKinds := [.data, .data, .data, .data, .sentinel, .sentinel, .pinned], laidTests := true, laidLooks := .later }
def RatingLengthsUptoCardSaid : Prop := Claim7.holds Tryz.pinned (.plain (OpenSpec.upto ratingLengthsSpec)) ratingLengthsUptoCard

/-- THE SECOND FORM's CARD OF 'niblicklaw03.RatingHoles'. -/
def ratingHolesUptoCard : Claim7 := { stood := { row := ratingHolesUptoRow, standIns := [], harness := (true, "4b8c5625713f700e21bfdb91e55307d14d4ce8bad068603c2f00cd8cb9be31d0"), looks := true }, kinds := [], alts := [], laidByText := true, laidKinds := [.data, .data, .data, .data, .sentinel, .sentinel, .pinned], laidTests := true, laidLooks := .later }
def RatingHolesUptoCardSaid : Prop := Claim7.holds Tryz.pinned (.plain (OpenSpec.upto ratingHolesSpec)) ratingHolesUptoCard

/-- THE SECOND FORM's CARD OF 'niblicklaw03.RatingReaches'. -/
def ratingReachesUptoCard : Claim7 := { stood := { row := ratingReachesUptoRow, standIns := [], harness := (true, "4b8c5625713f700e21bfdb91e55307d14d4ce8bad068603c2f00cd8cb9be31d0"), looks := true }, kinds := [], alts := [], laidByText := true, laidKinds := [.data, .data, .data, .data, .sentinel, .sentinel, .pinned], laidTests := true, laidLooks := .later }
def RatingReachesUptoCardSaid : Prop := Claim7.holds Tryz.pinned (.plain (OpenSpec.upto ratingReachesSpec)) ratingReachesUptoCard

/-- THE SECOND FORM's CARD OF 'niblicklaw03.RatingHarder'. -/
def ratingHarderUptoCard : Claim7 := { stood := { row := ratingHarderUptoRow, standIns := [], harness := (true, "4b8c5625713f700e21bfdb91e55307d14d4ce8bad068603c2f00cd8cb9be31d0"), looks := true }, kinds := [], alts := [], laidByText := true, laidKinds := [.data, .data, .data, .data, .sentinel, .sentinel, .pinned], laidTests := true, laidLooks := .later }
def RatingHarderUptoCardSaid : Prop := Claim7.holds Tryz.pinned (.plain (OpenSpec.upto ratingHarderSpec)) ratingHarderUptoCard
end Rows
end Go.Proofs.YtlohiljbghionaaGreatDoor
