import Derived.Test.YtipkapecgjpnlaaGreatDoorX17
/- A part of a proof; no law is stated here. -/
namespace Go.Proofs.YtipkapecgjpnlaaGreatDoor
open Go Go.RowKit Go.ChangeShapes Go.WideShapes Go.ChangeAt Go.Det Go.Pe
open Go.Proofs.Tryz (prog)
namespace HandicapScores
theorem inPlace:(Rows.handicapScoresRow.inPlace==prog.inPlace 3)=true:=by kernel_rfl
theorem unfollowed:(Rows.handicapScoresRow.unfollowed==prog.unfollowed 3)=true:=by kernel_rfl
theorem recurses:(Rows.handicapScoresRow.recurses==prog.recurses 3)=true:=by kernel_rfl
theorem named:(Rows.handicapScoresRow.named==prog.varsNamed 3)=true:=by kernel_rfl
theorem goes:false=Rows.handicapScoresRow.goesBy prog:=by kernel_rfl
theorem WK:Rows.handicapScoresRow.wfByText (OpenSpec.ofChange Rows.handicapScoresSpec)=true:=by kernel_rfl
theorem funcNamed:prog.funcNamed Rows.handicapScoresRow.func=some 3:=by kernel_rfl
theorem Vp:prog.inits.idxOf? 3=none:=by kernel_rfl
theorem Ru:([22,25].all fun u=> !prog.wantsStandIn u)=true:=by kernel_rfl
theorem Kc:Tryz.f3.isInstance Tryz.pinned.checked.prog Rows.handicapScoresRow.origin Rows.handicapScoresRow.targs:=w6 ag
theorem LK:Tryz.f3.isWrapper Tryz.pinned.checked.prog Rows.handicapScoresRow.wrapper Rows.handicapScoresRow.mainSum:=by unfold Func.isWrapper;first|(rw[wd<|by decide+kernel];kernel_rfl)|(rw[wc<|by decide+kernel];exact⟨rfl,rfl⟩)
theorem closed:joinedFacts prog 3 Tryz.f3 (OpenSpec.ofChange Rows.handicapScoresSpec).bare Rows.handicapScoresRow=true:=by
 unfold joinedFacts;refine AJ (AJ (AJ (AJ (AJ (AJ (AJ (AJ (AJ (AJ (AJ (AJ (AJ (AJ (AJ (AJ (AJ (AJ (AJ (AJ (AJ (AJ (AJ (AJ (AJ (AJ (AJ (AJ (AJ (AJ (AJ
  ag R7.laidOut) R7.Xr) ag) ag) ag) ag) ag) ag) inPlace) unfollowed) recurses) named) ag) ag) ag) ag) ag) ag) ag) ag) ag) ag) ag) R7.heard) R7.enter) R7.tX) R7.eQ) ag) ag) ag) ag
end HandicapScores
end Go.Proofs.YtipkapecgjpnlaaGreatDoor
