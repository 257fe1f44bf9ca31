import Derived.Test.YtlohiljbghionaaGreatDoorX19
/- A part of a proof; no law is stated here. -/
namespace Go.Proofs.YtlohiljbghionaaGreatDoor
open Go Go.RowKit Go.ChangeShapes Go.WideShapes Go.ChangeAt Go.Det Go.Pe
open Go.Proofs.Tryz (prog)
namespace RatingHoles
theorem inPlace:(Rows.ratingHolesRow.inPlace==prog.inPlace 5)=true:=by kernel_rfl
theorem unfollowed:(Rows.ratingHolesRow.unfollowed==prog.unfollowed 5)=true:=by kernel_rfl
theorem recurses:(Rows.ratingHolesRow.recurses==prog.recurses 5)=true:=by kernel_rfl
theorem named:(Rows.ratingHolesRow.named==prog.varsNamed 5)=true:=by kernel_rfl
theorem goes:false=Rows.ratingHolesRow.goesBy prog:=by kernel_rfl
theorem Acb:Rows.ratingHolesRow.wfByText (OpenSpec.ofChange Rows.ratingHolesSpec)=true:=by kernel_rfl
theorem funcNamed:prog.funcNamed Rows.ratingHolesRow.func=some 5:=by kernel_rfl
theorem AaG:prog.inits.idxOf? 5=none:=by kernel_rfl
theorem rG:([26,52].all fun u=> !prog.wantsStandIn u)=true:=by kernel_rfl
theorem Xa:Tryz.f5.isInstance Tryz.pinned.checked.prog Rows.ratingHolesRow.origin Rows.ratingHolesRow.targs:=w6 ag
theorem dY:Tryz.f5.isWrapper Tryz.pinned.checked.prog Rows.ratingHolesRow.wrapper Rows.ratingHolesRow.mainSum:=by unfold Func.isWrapper;first|(rw[wd<|by decide+kernel];kernel_rfl)|(rw[wc<|by decide+kernel];exact⟨rfl,rfl⟩)
theorem closed:joinedFacts prog 5 Tryz.f5 (OpenSpec.ofChange Rows.ratingHolesSpec).bare Rows.ratingHolesRow=true:=by
 unfold joinedFacts;refine BT (BT (BT (BT (BT (BT (BT (BT (BT (BT (BT (BT (BT (BT (BT (BT (BT (BT (BT (BT (BT (BT (BT (BT (BT (BT (BT (BT (BT (BT (BT
  ag R7.laidOut) R7.tW) ag) ag) ag) ag) ag) ag) inPlace) unfollowed) recurses) named) ag) ag) ag) ag) ag) ag) ag) ag) ag) ag) ag) R7.heard) R7.enter) R7.Ac8) R7.AaW) ag) ag) ag) ag
end RatingHoles
end Go.Proofs.YtlohiljbghionaaGreatDoor
