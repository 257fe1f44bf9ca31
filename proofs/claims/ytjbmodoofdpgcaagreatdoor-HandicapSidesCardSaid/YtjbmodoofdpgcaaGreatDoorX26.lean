import Derived.Test.YtjbmodoofdpgcaaGreatDoorX17
/- A part of a proof; no law is stated here. -/
namespace Go.Proofs.YtjbmodoofdpgcaaGreatDoor
open Go Go.RowKit Go.ChangeShapes Go.WideShapes Go.ChangeAt Go.Det Go.Pe
open Go.Proofs.Tryz (prog)
namespace HandicapSides
theorem inPlace:(Rows.handicapSidesRow.inPlace==prog.inPlace 4)=true:=by kernel_rfl
theorem unfollowed:(Rows.handicapSidesRow.unfollowed==prog.unfollowed 4)=true:=by kernel_rfl
theorem recurses:(Rows.handicapSidesRow.recurses==prog.recurses 4)=true:=by kernel_rfl
theorem named:(Rows.handicapSidesRow.named==prog.varsNamed 4)=true:=by kernel_rfl
theorem goes:false=Rows.handicapSidesRow.goesBy prog:=by kernel_rfl
theorem V7:Rows.handicapSidesRow.wfByText (OpenSpec.ofChange Rows.handicapSidesSpec)=true:=by kernel_rfl
theorem funcNamed:prog.funcNamed Rows.handicapSidesRow.func=some 4:=by kernel_rfl
theorem Vj:prog.inits.idxOf? 4=none:=by kernel_rfl
theorem RE:([38,38,39].all fun u=> !prog.wantsStandIn u)=true:=by kernel_rfl
theorem Kh:Tryz.f4.isInstance Tryz.pinned.checked.prog Rows.handicapSidesRow.origin Rows.handicapSidesRow.targs:=w6 ag
theorem Mp:Tryz.f4.isWrapper Tryz.pinned.checked.prog Rows.handicapSidesRow.wrapper Rows.handicapSidesRow.mainSum:=by unfold Func.isWrapper;first|(rw[wd<|by decide+kernel];kernel_rfl)|(rw[wc<|by decide+kernel];exact⟨rfl,rfl⟩)
theorem closed:joinedFacts prog 4 Tryz.f4 (OpenSpec.ofChange Rows.handicapSidesSpec).bare Rows.handicapSidesRow=true:=by
 unfold joinedFacts;refine AI (AI (AI (AI (AI (AI (AI (AI (AI (AI (AI (AI (AI (AI (AI (AI (AI (AI (AI (AI (AI (AI (AI (AI (AI (AI (AI (AI (AI (AI (AI
  ag R7.laidOut) R7.YA) ag) ag) ag) ag) ag) ag) inPlace) unfollowed) recurses) named) ag) ag) ag) ag) ag) ag) ag) ag) ag) ag) ag) R7.heard) R7.enter) R7.sK) R7.dQ) ag) ag) ag) ag
end HandicapSides
end Go.Proofs.YtjbmodoofdpgcaaGreatDoor
