import Derived.Test.YtbmofcgiokkikaaGreatDoorX20
/- A part of a proof; no law is stated here. -/
namespace Go.Proofs.YtbmofcgiokkikaaGreatDoor
open Go Go.RowKit Go.ChangeShapes Go.WideShapes Go.ChangeAt Go.Det Go.Pe
open Go.Proofs.Tryz (prog)
namespace RatingSums
theorem inPlace:(Rows.ratingSumsRow.inPlace==prog.inPlace 3)=true:=by kernel_rfl
theorem unfollowed:(Rows.ratingSumsRow.unfollowed==prog.unfollowed 3)=true:=by kernel_rfl
theorem recurses:(Rows.ratingSumsRow.recurses==prog.recurses 3)=true:=by kernel_rfl
theorem named:(Rows.ratingSumsRow.named==prog.varsNamed 3)=true:=by kernel_rfl
theorem goes:false=Rows.ratingSumsRow.goesBy prog:=by kernel_rfl
theorem Ac0:Rows.ratingSumsRow.wfByText (OpenSpec.ofChange Rows.ratingSumsSpec)=true:=by kernel_rfl
theorem funcNamed:prog.funcNamed Rows.ratingSumsRow.func=some 3:=by kernel_rfl
theorem AbT:prog.inits.idxOf? 3=none:=by kernel_rfl
theorem uY:([26,28].all fun u=> !prog.wantsStandIn u)=true:=by kernel_rfl
theorem Zh:Tryz.f3.isInstance Tryz.pinned.checked.prog Rows.ratingSumsRow.origin Rows.ratingSumsRow.targs:=w6 ag
theorem fM:Tryz.f3.isWrapper Tryz.pinned.checked.prog Rows.ratingSumsRow.wrapper Rows.ratingSumsRow.mainSum:=by unfold Func.isWrapper;first|(rw[wd<|by decide+kernel];kernel_rfl)|(rw[wc<|by decide+kernel];exact⟨rfl,rfl⟩)
theorem closed:joinedFacts prog 3 Tryz.f3 (OpenSpec.ofChange Rows.ratingSumsSpec).bare Rows.ratingSumsRow=true:=by
 unfold joinedFacts;refine BX (BX (BX (BX (BX (BX (BX (BX (BX (BX (BX (BX (BX (BX (BX (BX (BX (BX (BX (BX (BX (BX (BX (BX (BX (BX (BX (BX (BX (BX (BX
  ag R7.laidOut) R7.Aax) ag) ag) ag) ag) ag) ag) inPlace) unfollowed) recurses) named) ag) ag) ag) ag) ag) ag) ag) ag) ag) ag) ag) R7.heard) R7.enter) R7.Afa) R7.Adx) ag) ag) ag) ag
end RatingSums
end Go.Proofs.YtbmofcgiokkikaaGreatDoor
