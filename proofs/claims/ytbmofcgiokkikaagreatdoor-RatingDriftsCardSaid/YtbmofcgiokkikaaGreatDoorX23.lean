import Derived.Test.YtbmofcgiokkikaaGreatDoorX20
/- A part of a proof; no law is stated here. -/
namespace Go.Proofs.YtbmofcgiokkikaaGreatDoor
open Go Go.RowKit Go.ChangeShapes Go.WideShapes Go.ChangeAt Go.Det Go.Pe
open Go.Proofs.Tryz (prog)
namespace RatingDrifts
theorem inPlace:(Rows.ratingDriftsRow.inPlace==prog.inPlace 6)=true:=by kernel_rfl
theorem unfollowed:(Rows.ratingDriftsRow.unfollowed==prog.unfollowed 6)=true:=by kernel_rfl
theorem recurses:(Rows.ratingDriftsRow.recurses==prog.recurses 6)=true:=by kernel_rfl
theorem named:(Rows.ratingDriftsRow.named==prog.varsNamed 6)=true:=by kernel_rfl
theorem goes:false=Rows.ratingDriftsRow.goesBy prog:=by kernel_rfl
theorem Ad8:Rows.ratingDriftsRow.wfByText (OpenSpec.ofChange Rows.ratingDriftsSpec)=true:=by kernel_rfl
theorem funcNamed:prog.funcNamed Rows.ratingDriftsRow.func=some 6:=by kernel_rfl
theorem Aep:prog.inits.idxOf? 6=none:=by kernel_rfl
theorem xO:([26,28,54].all fun u=> !prog.wantsStandIn u)=true:=by kernel_rfl
theorem Yy:Tryz.f6.isInstance Tryz.pinned.checked.prog Rows.ratingDriftsRow.origin Rows.ratingDriftsRow.targs:=w6 ag
theorem gC:Tryz.f6.isWrapper Tryz.pinned.checked.prog Rows.ratingDriftsRow.wrapper Rows.ratingDriftsRow.mainSum:=by unfold Func.isWrapper;first|(rw[wd<|by decide+kernel];kernel_rfl)|(rw[wc<|by decide+kernel];exact⟨rfl,rfl⟩)
theorem closed:joinedFacts prog 6 Tryz.f6 (OpenSpec.ofChange Rows.ratingDriftsSpec).bare Rows.ratingDriftsRow=true:=by
 unfold joinedFacts;refine BV (BV (BV (BV (BV (BV (BV (BV (BV (BV (BV (BV (BV (BV (BV (BV (BV (BV (BV (BV (BV (BV (BV (BV (BV (BV (BV (BV (BV (BV (BV
  ag R7.laidOut) R7.Aaf) ag) ag) ag) ag) ag) ag) inPlace) unfollowed) recurses) named) ag) ag) ag) ag) ag) ag) ag) ag) ag) ag) ag) R7.heard) R7.enter) R7.Ahf) R7.Aek) ag) ag) ag) ag
end RatingDrifts
end Go.Proofs.YtbmofcgiokkikaaGreatDoor
