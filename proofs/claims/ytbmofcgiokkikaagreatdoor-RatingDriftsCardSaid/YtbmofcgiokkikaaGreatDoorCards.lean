/-
  DERIVED. GIVEN WITH THE SEED: THE CARDS: each row of YtbmofcgiokkikaaGreatDoorRows.lean that lists a variable, with what it lists TIED to the program's text (the seventh form; the later family's looks); each row that meets fmt, with fmt's text TOLD by the authors' own Lean function (tested against real Go, not proved from fmt's source: count such statements apart). THE CARD IS WHAT COUNTS. Prove the row's statement (the work); the ties are given (YtbmofcgiokkikaaGreatDoorTie.lean); close each card by the builder's one call (the guide's Derived/Test/ToyasCard.lean, 'card_holds'). Laid BY PROGRAM, IN A SANDBOX (cutbox-door.mjs). By AI agents, Wed Nov 11 2026. No macro, syntax, notation, axiom, sorry.
-/
import Derived.Test.YtbmofcgiokkikaaGreatDoorRows
import GoSem.ClaimSeven
namespace Go.Proofs.YtbmofcgiokkikaaGreatDoor
namespace Rows

/-- THE TIED CARD OF 'niblicklaw03.RatingSums'. -/
def ratingSumsCard : Claim7 := { stood := { row := ratingSumsRow, standIns := [], harness := (true, "8e64035a8f50edbc63ec1e56494a5db16a9965a16c42536ae85cc53187eb2ea4"), looks := true }, kinds := [], alts := [], laidByText := true, laidKinds := [.data, .data, .data, .data, .sentinel, .sentinel, .pinned], laidTests := true, laidLooks := .later }
def RatingSumsCardSaid : Prop := Claim7.holds Tryz.pinned (.plain (OpenSpec.ofChange ratingSumsSpec)) ratingSumsCard

/-- THE TIED CARD OF 'niblicklaw03.RatingSlopes'. -/
def ratingSlopesCard : Claim7 := { stood := { row := ratingSlopesRow, standIns := [], harness := (true, "8e64035a8f50edbc63ec1e56494a5db16a9965a16c42536ae85cc53187eb2ea4"), looks := true }, kinds := [], alts := [], laidByText := true, laidKinds := [.data, .data, .data, .data, .sentinel, .sentinel, .pinned], laidTests := true, laidLooks := .later }
def RatingSlopesCardSaid : Prop := Claim7.holds Tryz.pinned (.plain (OpenSpec.ofChange ratingSlopesSpec)) ratingSlopesCard

/-- THE TIED CARD OF 'niblicklaw03.RatingAdds'. -/
def ratingAddsCard : Claim7 := { stood := { row := ratingAddsRow, standIns := [], harness := (true, "8e64035a8f50edbc63ec1e56494a5db16a9965a16c42536ae85cc53187eb2ea4"), looks := true }, kinds := [], alts := [], laidByText := true, laidKinds := [.data, .data, .data, .data, .sentinel, .sentinel, .pinned], laidTests := true, laidLooks := .later }
def RatingAddsCardSaid : Prop := Claim7.holds Tryz.pinned (.plain (OpenSpec.ofChange ratingAddsSpec)) ratingAddsCard

/-- THE TIED CARD OF 'niblicklaw03.RatingDrifts'. -/
def ratingDriftsCard : Claim7 := { stood := { row := ratingDriftsRow, standIns := [], harness := (true, "8e64035a8f50edbc63ec1e56494a5db16a9965a16c42536ae85cc53187eb2ea4"), looks := true }, kinds := [], alts := [], laidByText := true, laidKinds := [.data, .data, .data, .data, .sentinel, .sentinel, .pinned], laidTests := true, laidLooks := .later }
def RatingDriftsCardSaid : Prop := Claim7.holds Tryz.pinned (.plain (OpenSpec.ofChange ratingDriftsSpec)) ratingDriftsCard

/-- THE SECOND FORM's CARD OF 'niblicklaw03.RatingSums'. -/
def ratingSumsUptoCard : Claim7 := { stood := { row := ratingSumsUptoRow, standIns := [], harness := (true, "8e64035a8f50edbc63ec1e56494a5db16a9965a16c42536ae85cc53187eb2ea4"), looks := true }, kinds := [], alts := [], laidByText := true, laidKinds := [.data, .data, .data, .data, .sentinel, .sentinel, .pinned], laidTests := true, laidLooks := .later }
def RatingSumsUptoCardSaid : Prop := Claim7.holds Tryz.pinned (.plain (OpenSpec.upto ratingSumsSpec)) ratingSumsUptoCard

/-- THE SECOND FORM's CARD OF 'niblicklaw03.RatingSlopes'. -/
def ratingSlopesUptoCard : Claim7 := { stood := { row := ratingSlopesUptoRow, standIns := [], harness := (true, "8e64035a8f50edbc63ec1e56494a5db16a9965a16c42536ae85cc53187eb2ea4"), looks := true }, kinds := [], alts := [], laidByText := true, laidKinds := [.data, .data, .data, .data, .sentinel, .sentinel, .pinned], laidTests := true, laidLooks := .later }
def RatingSlopesUptoCardSaid : Prop := Claim7.holds Tryz.pinned (.plain (OpenSpec.upto ratingSlopesSpec)) ratingSlopesUptoCard

/-- THE SECOND FORM's CARD OF 'niblicklaw03.RatingAdds'. -/
def ratingAddsUptoCard : Claim7 := { stood := { row := ratingAddsUptoRow, standIns := [], harness := (true, "8e64035a8f50edbc63ec1e56494a5db16a9965a16c42536ae85cc53187eb2ea4"), looks := true }, kinds := [], alts := [], laidByText := true, laidKinds := [.data, .data, .data, .data, .sentinel, .sentinel, .pinned], laidTests := true, laidLooks := .later }
def RatingAddsUptoCardSaid : Prop := Claim7.holds Tryz.pinned (.plain (OpenSpec.upto ratingAddsSpec)) ratingAddsUptoCard

/-- THE SECOND FORM's CARD OF 'niblicklaw03.RatingDrifts'. -/
def ratingDriftsUptoCard : Claim7 := { stood := { row := ratingDriftsUptoRow, standIns := [], harness := (true, "8e64035a8f50edbc63ec1e56494a5db16a9965a16c42536ae85cc53187eb2ea4"), looks := true }, kinds := [], alts := [], laidByText := true, laidKinds := [.data, .data, .data, .data, .sentinel, .sentinel, .pinned], laidTests := true, laidLooks := .later }
def RatingDriftsUptoCardSaid : Prop := Claim7.holds Tryz.pinned (.plain (OpenSpec.upto ratingDriftsSpec)) ratingDriftsUptoCard
end Rows
end Go.Proofs.YtbmofcgiokkikaaGreatDoor
