import Derived.Test.YtlohiljbghionaaGreatDoorX19
/- A part of a proof; no law is stated here. -/
namespace Go.Proofs.YtlohiljbghionaaGreatDoor
open Go Go.RowKit Go.ChangeShapes Go.WideShapes Go.ChangeAt Go.Det Go.Pe
open Go.Proofs.Tryz (prog)
namespace RatingReaches
theorem inPlace:(Rows.ratingReachesRow.inPlace==prog.inPlace 6)=true:=by kernel_rfl
theorem unfollowed:(Rows.ratingReachesRow.unfollowed==prog.unfollowed 6)=true:=by kernel_rfl
theorem recurses:(Rows.ratingReachesRow.recurses==prog.recurses 6)=true:=by kernel_rfl
theorem named:(Rows.ratingReachesRow.named==prog.varsNamed 6)=true:=by kernel_rfl
theorem goes:false=Rows.ratingReachesRow.goesBy prog:=by kernel_rfl
theorem AaV:Rows.ratingReachesRow.wfByText (OpenSpec.ofChange Rows.ratingReachesSpec)=true:=by kernel_rfl
theorem funcNamed:prog.funcNamed Rows.ratingReachesRow.func=some 6:=by kernel_rfl
theorem AbM:prog.inits.idxOf? 6=none:=by kernel_rfl
theorem rM:([26,52].all fun u=> !prog.wantsStandIn u)=true:=by kernel_rfl
theorem XD:Tryz.f6.isInstance Tryz.pinned.checked.prog Rows.ratingReachesRow.origin Rows.ratingReachesRow.targs:=w6 ag
theorem cS:Tryz.f6.isWrapper Tryz.pinned.checked.prog Rows.ratingReachesRow.wrapper Rows.ratingReachesRow.mainSum:=by unfold Func.isWrapper;first|(rw[wd<|by decide+kernel];kernel_rfl)|(rw[wc<|by decide+kernel];exact⟨rfl,rfl⟩)
theorem closed:joinedFacts prog 6 Tryz.f6 (OpenSpec.ofChange Rows.ratingReachesSpec).bare Rows.ratingReachesRow=true:=by
 unfold joinedFacts;refine BG (BG (BG (BG (BG (BG (BG (BG (BG (BG (BG (BG (BG (BG (BG (BG (BG (BG (BG (BG (BG (BG (BG (BG (BG (BG (BG (BG (BG (BG (BG
  ag R7.laidOut) R7.rG) ag) ag) ag) ag) ag) ag) inPlace) unfollowed) recurses) named) ag) ag) ag) ag) ag) ag) ag) ag) ag) ag) ag) R7.heard) R7.enter) R7.Adw) R7.Abe) ag) ag) ag) ag
end RatingReaches
end Go.Proofs.YtlohiljbghionaaGreatDoor
