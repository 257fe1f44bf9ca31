import Derived.Test.YtipkapecgjpnlaaGreatDoorX17
/- A part of a proof; no law is stated here. -/
namespace Go.Proofs.YtipkapecgjpnlaaGreatDoor
open Go Go.RowKit Go.ChangeShapes Go.WideShapes Go.ChangeAt Go.Det Go.Pe
open Go.Proofs.Tryz (prog)
namespace HandicapMerges
theorem inPlace:(Rows.handicapMergesRow.inPlace==prog.inPlace 4)=true:=by kernel_rfl
theorem unfollowed:(Rows.handicapMergesRow.unfollowed==prog.unfollowed 4)=true:=by kernel_rfl
theorem recurses:(Rows.handicapMergesRow.recurses==prog.recurses 4)=true:=by kernel_rfl
theorem named:(Rows.handicapMergesRow.named==prog.varsNamed 4)=true:=by kernel_rfl
theorem goes:false=Rows.handicapMergesRow.goesBy prog:=by kernel_rfl
theorem WK:Rows.handicapMergesRow.wfByText (OpenSpec.ofChange Rows.handicapMergesSpec)=true:=by kernel_rfl
theorem funcNamed:prog.funcNamed Rows.handicapMergesRow.func=some 4:=by kernel_rfl
theorem Vp:prog.inits.idxOf? 4=none:=by kernel_rfl
theorem Ru:([22,22,25].all fun u=> !prog.wantsStandIn u)=true:=by kernel_rfl
theorem Kc:Tryz.f4.isInstance Tryz.pinned.checked.prog Rows.handicapMergesRow.origin Rows.handicapMergesRow.targs:=w6 ag
theorem LK:Tryz.f4.isWrapper Tryz.pinned.checked.prog Rows.handicapMergesRow.wrapper Rows.handicapMergesRow.mainSum:=by unfold Func.isWrapper;first|(rw[wd<|by decide+kernel];kernel_rfl)|(rw[wc<|by decide+kernel];exact⟨rfl,rfl⟩)
theorem closed:joinedFacts prog 4 Tryz.f4 (OpenSpec.ofChange Rows.handicapMergesSpec).bare Rows.handicapMergesRow=true:=by
 unfold joinedFacts;refine AJ (AJ (AJ (AJ (AJ (AJ (AJ (AJ (AJ (AJ (AJ (AJ (AJ (AJ (AJ (AJ (AJ (AJ (AJ (AJ (AJ (AJ (AJ (AJ (AJ (AJ (AJ (AJ (AJ (AJ (AJ
  ag R7.laidOut) R7.Xr) ag) ag) ag) ag) ag) ag) inPlace) unfollowed) recurses) named) ag) ag) ag) ag) ag) ag) ag) ag) ag) ag) ag) R7.heard) R7.enter) R7.tX) R7.eQ) ag) ag) ag) ag
end HandicapMerges
end Go.Proofs.YtipkapecgjpnlaaGreatDoor
