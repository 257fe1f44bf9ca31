/-
  DERIVED. GIVEN WITH THE SEED: THE CARDS: each row of YtobmcolckeoejaaGreatDoorRows.lean that lists a variable, with what it lists TIED to the program's text (the seventh form; the later family's looks); each row that meets fmt, with fmt's text TOLD by the authors' own Lean function (tested against real Go, not proved from fmt's source: count such statements apart). THE CARD IS WHAT COUNTS. Prove the row's statement (the work); the ties are given (YtobmcolckeoejaaGreatDoorTie.lean); close each card by the builder's one call (the guide's Derived/Test/ToyasCard.lean, 'card_holds'). Laid BY PROGRAM, IN A SANDBOX (cutbox-door.mjs). By AI agents, Wed Nov 11 2026. No macro, syntax, notation, axiom, sorry.
-/
import Derived.Test.YtobmcolckeoejaaGreatDoorRows
import GoSem.ClaimSeven
namespace Go.Proofs.YtobmcolckeoejaaGreatDoor
namespace Rows

/-- THE TIED CARD OF 'niblicklaw03.RatingMeans'. -/
def ratingMeansCard : Claim7 := { stood := { row := ratingMeansRow, standIns := [], harness := (true, "823b262d092c53220dfb0bfbd1ce7f67721a1372cd558f3ab37e93e4f317cc5b"), looks := true }, kinds := [], alts := [], laidByText := true, laidKinds := [.data, .data, .data, .data, .sentinel, .sentinel, .pinned], laidTests := true, laidLooks := .later }
def RatingMeansCardSaid : Prop := Claim7.holds Tryz.pinned (.plain (OpenSpec.ofChange ratingMeansSpec)) ratingMeansCard

/-- THE TIED CARD OF 'niblicklaw03.RatingMiddles'. -/
def ratingMiddlesCard : Claim7 := { stood := { row := ratingMiddlesRow, standIns := [], harness := (true, "823b262d092c53220dfb0bfbd1ce7f67721a1372cd558f3ab37e93e4f317cc5b"), looks := true }, kinds := [], alts := [], laidByText := true, laidKinds := [.data, .data, .data, .data, .sentinel, .sentinel, .pinned], laidTests := true, laidLooks := .later }
def RatingMiddlesCardSaid : Prop := Claim7.holds Tryz.pinned (.plain (OpenSpec.ofChange ratingMiddlesSpec)) ratingMiddlesCard

/-- THE SECOND FORM's CARD OF 'niblicklaw03.RatingMeans'. -/
def ratingMeansUptoCard : Claim7 := { stood := { row := ratingMeansUptoRow, standIns := [], harness := (true, "823b262d092c53220dfb0bfbd1ce7f67721a1372cd558f3ab37e93e4f317cc5b"), looks := true }, kinds := [], alts := [], laidByText := true, laidKinds := [.data, .data, .data, .data, .sentinel, .sentinel, .pinned], laidTests := true, laidLooks := .later }
def RatingMeansUptoCardSaid : Prop := Claim7.holds Tryz.pinned (.plain (OpenSpec.upto ratingMeansSpec)) ratingMeansUptoCard

/-- THE SECOND FORM's CARD OF 'niblicklaw03.RatingMiddles'. -/
def ratingMiddlesUptoCard : Claim7 := { stood := { row := ratingMiddlesUptoRow, standIns := [], harness := (true, "823b262d092c53220dfb0bfbd1ce7f67721a1372cd558f3ab37e93e4f317cc5b"), looks := true }, kinds := [], alts := [], laidByText := true, laidKinds := [.data, .data, .data, .data, .sentinel, .sentinel, .pinned], laidTests := true, laidLooks := .later }
def RatingMiddlesUptoCardSaid : Prop := Claim7.holds Tryz.pinned (.plain (OpenSpec.upto ratingMiddlesSpec)) ratingMiddlesUptoCard
end Rows
end Go.Proofs.YtobmcolckeoejaaGreatDoor
