import Derived.Test.YtjbmodoofdpgcaaGreatDoorX17
/- A part of a proof; no law is stated here. -/
namespace Go.Proofs.YtjbmodoofdpgcaaGreatDoor
open Go Go.RowKit Go.ChangeShapes Go.WideShapes Go.ChangeAt Go.Det Go.Pe
open Go.Proofs.Tryz (prog)
namespace HandicapFair
theorem inPlace:(Rows.handicapFairRow.inPlace==prog.inPlace 5)=true:=by kernel_rfl
theorem unfollowed:(Rows.handicapFairRow.unfollowed==prog.unfollowed 5)=true:=by kernel_rfl
theorem recurses:(Rows.handicapFairRow.recurses==prog.recurses 5)=true:=by kernel_rfl
theorem named:(Rows.handicapFairRow.named==prog.varsNamed 5)=true:=by kernel_rfl
theorem goes:false=Rows.handicapFairRow.goesBy prog:=by kernel_rfl
theorem V7:Rows.handicapFairRow.wfByText (OpenSpec.ofChange Rows.handicapFairSpec)=true:=by kernel_rfl
theorem funcNamed:prog.funcNamed Rows.handicapFairRow.func=some 5:=by kernel_rfl
theorem Vj:prog.inits.idxOf? 5=none:=by kernel_rfl
theorem RE:([38,22,24].all fun u=> !prog.wantsStandIn u)=true:=by kernel_rfl
theorem Kh:Tryz.f5.isInstance Tryz.pinned.checked.prog Rows.handicapFairRow.origin Rows.handicapFairRow.targs:=w6 ag
theorem Mp:Tryz.f5.isWrapper Tryz.pinned.checked.prog Rows.handicapFairRow.wrapper Rows.handicapFairRow.mainSum:=by unfold Func.isWrapper;first|(rw[wd<|by decide+kernel];kernel_rfl)|(rw[wc<|by decide+kernel];exact⟨rfl,rfl⟩)
theorem closed:joinedFacts prog 5 Tryz.f5 (OpenSpec.ofChange Rows.handicapFairSpec).bare Rows.handicapFairRow=true:=by
 unfold joinedFacts;refine AI (AI (AI (AI (AI (AI (AI (AI (AI (AI (AI (AI (AI (AI (AI (AI (AI (AI (AI (AI (AI (AI (AI (AI (AI (AI (AI (AI (AI (AI (AI
  ag R7.laidOut) R7.YA) ag) ag) ag) ag) ag) ag) inPlace) unfollowed) recurses) named) ag) ag) ag) ag) ag) ag) ag) ag) ag) ag) ag) R7.heard) R7.enter) R7.sK) R7.dQ) ag) ag) ag) ag
end HandicapFair
end Go.Proofs.YtjbmodoofdpgcaaGreatDoor
