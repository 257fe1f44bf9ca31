import Derived.Test.YtbmofcgiokkikaaGreatDoorX18
/- A part of a proof; no law is stated here. -/
namespace Go.Proofs.YtbmofcgiokkikaaGreatDoor
open Go Go.RowKit Go.ChangeShapes Go.WideShapes Go.ChangeAt Go.Det Go.Pe
open Go.Proofs.Tryz (prog)
namespace RatingSlopes
theorem inPlace:(Rows.ratingSlopesRow.inPlace==prog.inPlace 4)=true:=by kernel_rfl
theorem unfollowed:(Rows.ratingSlopesRow.unfollowed==prog.unfollowed 4)=true:=by kernel_rfl
theorem recurses:(Rows.ratingSlopesRow.recurses==prog.recurses 4)=true:=by kernel_rfl
theorem named:(Rows.ratingSlopesRow.named==prog.varsNamed 4)=true:=by kernel_rfl
theorem goes:false=Rows.ratingSlopesRow.goesBy prog:=by kernel_rfl
theorem bK:Rows.ratingSlopesRow.wfByText (OpenSpec.ofChange Rows.ratingSlopesSpec)=true:=by kernel_rfl
theorem funcNamed:prog.funcNamed Rows.ratingSlopesRow.func=some 4:=by kernel_rfl
theorem bD:prog.inits.idxOf? 4=none:=by kernel_rfl
theorem Vb:([26,3,51].all fun u=> !prog.wantsStandIn u)=true:=by kernel_rfl
theorem Ma:Tryz.f4.isInstance Tryz.pinned.checked.prog Rows.ratingSlopesRow.origin Rows.ratingSlopesRow.targs:=w6 ag
theorem Ox:Tryz.f4.isWrapper Tryz.pinned.checked.prog Rows.ratingSlopesRow.wrapper Rows.ratingSlopesRow.mainSum:=by unfold Func.isWrapper;first|(rw[wd<|by decide+kernel];kernel_rfl)|(rw[wc<|by decide+kernel];exact⟨rfl,rfl⟩)
theorem closed:joinedFacts prog 4 Tryz.f4 (OpenSpec.ofChange Rows.ratingSlopesSpec).bare Rows.ratingSlopesRow=true:=by
 unfold joinedFacts;refine AQ (AQ (AQ (AQ (AQ (AQ (AQ (AQ (AQ (AQ (AQ (AQ (AQ (AQ (AQ (AQ (AQ (AQ (AQ (AQ (AQ (AQ (AQ (AQ (AQ (AQ (AQ (AQ (AQ (AQ (AQ
  ag R7.laidOut) R7.cT) ag) ag) ag) ag) ag) ag) inPlace) unfollowed) recurses) named) ag) ag) ag) ag) ag) ag) ag) ag) ag) ag) ag) R7.heard) R7.enter) R7.Ads) R7.zM) ag) ag) ag) ag
end RatingSlopes
end Go.Proofs.YtbmofcgiokkikaaGreatDoor
