/-
  DERIVED. GIVEN WITH THE SEED: THE CARDS: each row of YtmcnicakonagdaaGreatDoorRows.lean that lists a variable, with what it lists TIED to the program's text (the seventh form; the later family's looks); each row that meets fmt, with fmt's text TOLD by the authors' own Lean function (tested against real Go, not proved from fmt's source: count such statements apart). THE CARD IS WHAT COUNTS. Prove the row's statement (the work); the ties are given (YtmcnicakonagdaaGreatDoorTie.lean); close each card by the builder's one call (the guide's Derived/Test/ToyasCard.lean, 'card_holds'). Laid BY PROGRAM, IN A SANDBOX (cutbox-door.mjs). By AI agents, Wed Nov 11 2026. No macro, syntax, notation, axiom, sorry.
-/
import Derived.Test.YtmcnicakonagdaaGreatDoorRows
import GoSem.ClaimSeven
namespace Go.Proofs.YtmcnicakonagdaaGreatDoor
namespace Rows

/-- THE TIED CARD OF 'niblicklaw03.RatingLines'. -/
def ratingLinesCard : Claim7 := { stood := { row := ratingLinesRow, standIns := [], harness := (true, "1a7aa86f1c027102ad0a49b608d3c4640ebcbda8aee2ba9e127e9e0e6b128921"), looks := true }, kinds := [], alts := [], laidByText := true, laidKinds := [.data, .data, .data, .data, .sentinel, .sentinel, .pinned], laidTests := true, laidLooks := .later }
def RatingLinesCardSaid : Prop := Claim7.holds Tryz.pinned (.plain (OpenSpec.ofChange ratingLinesSpec)) ratingLinesCard

/-- THE TIED CARD OF 'niblicklaw03.RatingSquares'. -/
def ratingSquaresCard : Claim7 := { stood := { row := ratingSquaresRow, standIns := [], harness := (true, "1a7aa86f1c027102ad0a49b608d3c4640ebcbda8aee2ba9e127e9e0e6b128921"), looks := true }, kinds := [], alts := [], laidByText := true, laidKinds := [.data, .data, .data, .data, .sentinel, .sentinel, .pinned], laidTests := true, laidLooks := .later }
def RatingSquaresCardSaid : Prop := Claim7.holds Tryz.pinned (.plain (OpenSpec.ofChange ratingSquaresSpec)) ratingSquaresCard

/-- THE TIED CARD OF 'niblicklaw03.RatingCourses'. -/
def ratingCoursesCard : Claim7 := { stood := { row := ratingCoursesRow, standIns := [], harness := (true, "1a7aa86f1c027102ad0a49b608d3c4640ebcbda8aee2ba9e127e9e0e6b128921"), looks := true }, kinds := [], alts := [], laidByText := true, laidKinds := [.data, .data, .data, .data, .sentinel, .sentinel, .pinned], laidTests := true, laidLooks := .later }
def RatingCoursesCardSaid : Prop := Claim7.holds Tryz.pinned (.plain (OpenSpec.ofChange ratingCoursesSpec)) ratingCoursesCard

/-- THE TIED CARD OF 'niblicklaw03.RatingLengths'. -/
def ratingLengthsCard : Claim7 := { stood := { row := ratingLengthsRow, standIns := [], harness := (true, "1a7aa86f1c027102ad0a49b608d3c4640ebcbda8aee2ba9e127e9e0e6b128921"), looks := true }, kinds := [], alts := [], laidByText := true, laidKinds := [.data, .data, .data, .data, .sentinel, .sentinel, .pinned], laidTests := true, laidLooks := .later }
def RatingLengthsCardSaid : Prop := Claim7.holds Tryz.pinned (.plain (OpenSpec.ofChange ratingLengthsSpec)) ratingLengthsCard

/-- THE TIED CARD OF 'niblicklaw03.RatingHoles'. -/
def ratingHolesCard : Claim7 := { stood := { row := ratingHolesRow, standIns := [], harness := (true, "1a7aa86f1c027102ad0a49b608d3c4640ebcbda8aee2ba9e127e9e0e6b128921"), looks := true }, kinds := [], alts := [], laidByText := true, laidKinds := [.data, .data, .data, .data, .sentinel, .sentinel, .pinned], laidTests := true, laidLooks := .later }
def RatingHolesCardSaid : Prop := Claim7.holds Tryz.pinned (.plain (OpenSpec.ofChange ratingHolesSpec)) ratingHolesCard

/-- THE SECOND FORM's CARD OF 'niblicklaw03.RatingLines'. -/
def ratingLinesUptoCard : Claim7 := { stood := { row := ratingLinesUptoRow, standIns := [], harness := (true, "1a7aa86f1c027102ad0a49b608d3c4640ebcbda8aee2ba9e127e9e0e6b128921"), looks := true }, kinds := [], alts := [], laidByText := true, laidKinds := [.data, .data, .data, .data, .sentinel, .sentinel, .pinned], laidTests := true, laidLooks := .later }
def RatingLinesUptoCardSaid : Prop := Claim7.holds Tryz.pinned (.plain (OpenSpec.upto ratingLinesSpec)) ratingLinesUptoCard

/-- THE SECOND FORM's CARD OF 'niblicklaw03.RatingSquares'. -/
def ratingSquaresUptoCard : Claim7 := { stood := { row := ratingSquaresUptoRow, standIns := [], harness := (true, "1a7aa86f1c027102ad0a49b608d3c4640ebcbda8aee2ba9e127e9e0e6b128921"), looks := true }, kinds := [], alts := [], laidByText := true, laidKinds := [.data, .data, .data, .data, .sentinel, .sentinel, .pinned], laidTests := true, laidLooks := .later }
def RatingSquaresUptoCardSaid : Prop := Claim7.holds Tryz.pinned (.plain (OpenSpec.upto ratingSquaresSpec)) ratingSquaresUptoCard

/-- THE SECOND FORM's CARD OF 'niblicklaw03.RatingCourses'. -/
def ratingCoursesUptoCard : Claim7 := { stood := { row := ratingCoursesUptoRow, standIns := [], harness := (true, "1a7aa86f1c027102ad0a49b608d3c4640ebcbda8aee2ba9e127e9e0e6b128921"), looks := true }, kinds := [], alts := [], laidByText := true, laidKinds := [.data, .data, .data, .data, .sentinel, .sentinel, .pinned], laidTests := true, laidLooks := .later }
def RatingCoursesUptoCardSaid : Prop := Claim7.holds Tryz.pinned (.plain (OpenSpec.upto ratingCoursesSpec)) ratingCoursesUptoCard

/-- THE SECOND FORM's CARD OF 'niblicklaw03.RatingLengths'. -/
def ratingLengthsUptoCard : Claim7 := { stood := { row := ratingLengthsUptoRow, standIns := [], harness := (true, "1a7aa86f1c027102ad0a49b608d3c4640ebcbda8aee2ba9e127e9e0e6b128921"), looks := true }, kinds := [], alts := [], laidByText := true, laidKinds := [.data, .data, .data, .data, .sentinel, .sentinel, .pinned], laidTests := true, laidLooks := .later }
def RatingLengthsUptoCardSaid : Prop := Claim7.holds Tryz.pinned (.plain (OpenSpec.upto ratingLengthsSpec)) ratingLengthsUptoCard

/-- THE SECOND FORM's CARD OF 'niblicklaw03.RatingHoles'. -/
def ratingHolesUptoCard : Claim7 := { stood := { row := ratingHolesUptoRow, standIns := [], harness := (true, "1a7aa86f1c027102ad0a49b608d3c4640ebcbda8aee2ba9e127e9e0e6b128921"), looks := true }, kinds := [], alts := [], laidByText := true, laidKinds := [.data, .data, .data, .data, .sentinel, .sentinel, .pinned], laidTests := true, laidLooks := .later }
def RatingHolesUptoCardSaid : Prop := Claim7.holds Tryz.pinned (.plain (OpenSpec.upto ratingHolesSpec)) ratingHolesUptoCard
end Rows
end Go.Proofs.YtmcnicakonagdaaGreatDoor
