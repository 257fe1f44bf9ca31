import Derived.Test.YtobmcolckeoejaaGreatDoorX18
/- A part of a proof; no law is stated here. -/
namespace Go.Proofs.YtobmcolckeoejaaGreatDoor
open Go Go.RowKit Go.ChangeShapes Go.WideShapes Go.ChangeAt Go.Det Go.Pe
open Go.Proofs.Tryz (prog)
namespace RatingMiddles
theorem inPlace:(Rows.ratingMiddlesRow.inPlace==prog.inPlace 4)=true:=by kernel_rfl
theorem unfollowed:(Rows.ratingMiddlesRow.unfollowed==prog.unfollowed 4)=true:=by kernel_rfl
theorem recurses:(Rows.ratingMiddlesRow.recurses==prog.recurses 4)=true:=by kernel_rfl
theorem named:(Rows.ratingMiddlesRow.named==prog.varsNamed 4)=true:=by kernel_rfl
theorem goes:false=Rows.ratingMiddlesRow.goesBy prog:=by kernel_rfl
theorem Xn:Rows.ratingMiddlesRow.wfByText (OpenSpec.ofChange Rows.ratingMiddlesSpec)=true:=by kernel_rfl
theorem funcNamed:prog.funcNamed Rows.ratingMiddlesRow.func=some 4:=by kernel_rfl
theorem YM:prog.inits.idxOf? 4=none:=by kernel_rfl
theorem UH:([22,24].all fun u=> !prog.wantsStandIn u)=true:=by kernel_rfl
theorem Kz:Tryz.f4.isInstance Tryz.pinned.checked.prog Rows.ratingMiddlesRow.origin Rows.ratingMiddlesRow.targs:=w6 ag
theorem MF:Tryz.f4.isWrapper Tryz.pinned.checked.prog Rows.ratingMiddlesRow.wrapper Rows.ratingMiddlesRow.mainSum:=by unfold Func.isWrapper;first|(rw[wd<|by decide+kernel];kernel_rfl)|(rw[wc<|by decide+kernel];exact⟨rfl,rfl⟩)
theorem closed:joinedFacts prog 4 Tryz.f4 (OpenSpec.ofChange Rows.ratingMiddlesSpec).bare Rows.ratingMiddlesRow=true:=by
 unfold joinedFacts;refine AP (AP (AP (AP (AP (AP (AP (AP (AP (AP (AP (AP (AP (AP (AP (AP (AP (AP (AP (AP (AP (AP (AP (AP (AP (AP (AP (AP (AP (AP (AP
  ag R7.laidOut) R7.aU) ag) ag) ag) ag) ag) ag) inPlace) unfollowed) recurses) named) ag) ag) ag) ag) ag) ag) ag) ag) ag) ag) ag) R7.heard) R7.enter) R7.Acb) R7.qN) ag) ag) ag) ag
end RatingMiddles
end Go.Proofs.YtobmcolckeoejaaGreatDoor
