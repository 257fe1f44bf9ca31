import Derived.Test.YtbmofcgiokkikaaGreatDoorX18
/- A part of a proof; no law is stated here. -/
namespace Go.Proofs.YtbmofcgiokkikaaGreatDoor
open Go Go.RowKit Go.ChangeShapes Go.WideShapes Go.ChangeAt Go.Det Go.Pe
open Go.Proofs.Tryz (prog)
namespace RatingAdds
theorem inPlace:(Rows.ratingAddsRow.inPlace==prog.inPlace 5)=true:=by kernel_rfl
theorem unfollowed:(Rows.ratingAddsRow.unfollowed==prog.unfollowed 5)=true:=by kernel_rfl
theorem recurses:(Rows.ratingAddsRow.recurses==prog.recurses 5)=true:=by kernel_rfl
theorem named:(Rows.ratingAddsRow.named==prog.varsNamed 5)=true:=by kernel_rfl
theorem goes:false=Rows.ratingAddsRow.goesBy prog:=by kernel_rfl
theorem bK:Rows.ratingAddsRow.wfByText (OpenSpec.ofChange Rows.ratingAddsSpec)=true:=by kernel_rfl
theorem funcNamed:prog.funcNamed Rows.ratingAddsRow.func=some 5:=by kernel_rfl
theorem bD:prog.inits.idxOf? 5=none:=by kernel_rfl
theorem Vb:([26,3,51].all fun u=> !prog.wantsStandIn u)=true:=by kernel_rfl
theorem Ma:Tryz.f5.isInstance Tryz.pinned.checked.prog Rows.ratingAddsRow.origin Rows.ratingAddsRow.targs:=w6 ag
theorem Ox:Tryz.f5.isWrapper Tryz.pinned.checked.prog Rows.ratingAddsRow.wrapper Rows.ratingAddsRow.mainSum:=by unfold Func.isWrapper;first|(rw[wd<|by decide+kernel];kernel_rfl)|(rw[wc<|by decide+kernel];exact⟨rfl,rfl⟩)
theorem closed:joinedFacts prog 5 Tryz.f5 (OpenSpec.ofChange Rows.ratingAddsSpec).bare Rows.ratingAddsRow=true:=by
 unfold joinedFacts;refine AQ (AQ (AQ (AQ (AQ (AQ (AQ (AQ (AQ (AQ (AQ (AQ (AQ (AQ (AQ (AQ (AQ (AQ (AQ (AQ (AQ (AQ (AQ (AQ (AQ (AQ (AQ (AQ (AQ (AQ (AQ
  ag R7.laidOut) R7.cT) ag) ag) ag) ag) ag) ag) inPlace) unfollowed) recurses) named) ag) ag) ag) ag) ag) ag) ag) ag) ag) ag) ag) R7.heard) R7.enter) R7.Ads) R7.zM) ag) ag) ag) ag
end RatingAdds
end Go.Proofs.YtbmofcgiokkikaaGreatDoor
