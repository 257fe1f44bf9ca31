import Derived.Test.YtobmcolckeoejaaGreatDoorX18
/- A part of a proof; no law is stated here. -/
namespace Go.Proofs.YtobmcolckeoejaaGreatDoor
open Go Go.RowKit Go.ChangeShapes Go.WideShapes Go.ChangeAt Go.Det Go.Pe
open Go.Proofs.Tryz (prog)
namespace RatingMeans
theorem inPlace:(Rows.ratingMeansRow.inPlace==prog.inPlace 3)=true:=by kernel_rfl
theorem unfollowed:(Rows.ratingMeansRow.unfollowed==prog.unfollowed 3)=true:=by kernel_rfl
theorem recurses:(Rows.ratingMeansRow.recurses==prog.recurses 3)=true:=by kernel_rfl
theorem named:(Rows.ratingMeansRow.named==prog.varsNamed 3)=true:=by kernel_rfl
theorem goes:false=Rows.ratingMeansRow.goesBy prog:=by kernel_rfl
theorem Xn:Rows.ratingMeansRow.wfByText (OpenSpec.ofChange Rows.ratingMeansSpec)=true:=by kernel_rfl
theorem funcNamed:prog.funcNamed Rows.ratingMeansRow.func=some 3:=by kernel_rfl
theorem YM:prog.inits.idxOf? 3=none:=by kernel_rfl
theorem UH:([22].all fun u=> !prog.wantsStandIn u)=true:=by kernel_rfl
theorem Kz:Tryz.f3.isInstance Tryz.pinned.checked.prog Rows.ratingMeansRow.origin Rows.ratingMeansRow.targs:=w6 ag
theorem MF:Tryz.f3.isWrapper Tryz.pinned.checked.prog Rows.ratingMeansRow.wrapper Rows.ratingMeansRow.mainSum:=by unfold Func.isWrapper;first|(rw[wd<|by decide+kernel];kernel_rfl)|(rw[wc<|by decide+kernel];exact⟨rfl,rfl⟩)
theorem closed:joinedFacts prog 3 Tryz.f3 (OpenSpec.ofChange Rows.ratingMeansSpec).bare Rows.ratingMeansRow=true:=by
 unfold joinedFacts;refine AP (AP (AP (AP (AP (AP (AP (AP (AP (AP (AP (AP (AP (AP (AP (AP (AP (AP (AP (AP (AP (AP (AP (AP (AP (AP (AP (AP (AP (AP (AP
  ag R7.laidOut) R7.aU) ag) ag) ag) ag) ag) ag) inPlace) unfollowed) recurses) named) ag) ag) ag) ag) ag) ag) ag) ag) ag) ag) ag) R7.heard) R7.enter) R7.Acb) R7.qN) ag) ag) ag) ag
end RatingMeans
end Go.Proofs.YtobmcolckeoejaaGreatDoor
