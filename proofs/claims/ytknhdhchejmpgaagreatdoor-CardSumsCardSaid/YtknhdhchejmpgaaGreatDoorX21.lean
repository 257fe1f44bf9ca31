import Derived.Test.YtknhdhchejmpgaaGreatDoorX18
/- A part of a proof (no law is stated here). Made by program out of texts by AI agents. -/
namespace Go.Proofs.YtknhdhchejmpgaaGreatDoor
open Go Go.RowKit Go.ChangeShapes Go.WideShapes Go.ChangeAt Go.Det Go.Pe
open Go.Proofs.Tryz (prog)
namespace CardSums
theorem inPlace:(Rows.cardSumsRow.inPlace==prog.inPlace 15)=true:=by kernel_rfl
theorem unfollowed:(Rows.cardSumsRow.unfollowed==prog.unfollowed 15)=true:=by kernel_rfl
theorem recurses:(Rows.cardSumsRow.recurses==prog.recurses 15)=true:=by kernel_rfl
theorem named:(Rows.cardSumsRow.named==prog.varsNamed 15)=true:=by kernel_rfl
theorem goes:false=Rows.cardSumsRow.goesBy prog:=by kernel_rfl
theorem wN:Rows.cardSumsRow.wfByText (OpenSpec.ofChange Rows.cardSumsSpec)=true:=by kernel_rfl
theorem funcNamed:prog.funcNamed Rows.cardSumsRow.func=some 15:=by kernel_rfl
theorem wM:prog.inits.idxOf? 15=none:=by kernel_rfl
theorem mQ:([70,70,3].all fun u=> !prog.wantsStandIn u)=true:=by kernel_rfl
theorem WN:Tryz.f15.isInstance Tryz.pinned.checked.prog Rows.cardSumsRow.origin Rows.cardSumsRow.targs:=w6 (by kernel_rfl)
theorem Y4:Tryz.f15.isWrapper Tryz.pinned.checked.prog Rows.cardSumsRow.wrapper Rows.cardSumsRow.mainSum:=by unfold Func.isWrapper;first|(rw[wd (by decide+kernel)];kernel_rfl)|(rw[wc (by decide+kernel)];exact⟨rfl,rfl⟩)
theorem closed:joinedFacts prog 15 Tryz.f15 (OpenSpec.ofChange Rows.cardSumsSpec).bare Rows.cardSumsRow=true:=by
 unfold joinedFacts;refine BC (BC (BC (BC (BC (BC (BC (BC (BC (BC (BC (BC (BC (BC (BC (BC (BC (BC (BC (BC (BC (BC (BC (BC (BC (BC (BC (BC (BC (BC (BC
  (by kernel_rfl) R7.laidOut) R7.mU) (by kernel_rfl)) (by kernel_rfl)) (by kernel_rfl)) (by kernel_rfl)) (by kernel_rfl)) (by kernel_rfl)) inPlace) unfollowed) recurses) named) (by kernel_rfl)) (by kernel_rfl)) (by kernel_rfl)) (by kernel_rfl)) (by kernel_rfl)) (by kernel_rfl)) (by kernel_rfl)) (by kernel_rfl)) (by kernel_rfl)) (by kernel_rfl)) (by kernel_rfl)) R7.heard) R7.enter) R7.xU) R7.wD) (by kernel_rfl)) (by kernel_rfl)) (by kernel_rfl)) (by kernel_rfl)
end CardSums
end Go.Proofs.YtknhdhchejmpgaaGreatDoor
