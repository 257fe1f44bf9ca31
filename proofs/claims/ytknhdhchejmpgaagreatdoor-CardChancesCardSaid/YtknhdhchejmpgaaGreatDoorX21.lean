import Derived.Test.YtknhdhchejmpgaaGreatDoorX18
/- A part of a proof (no law is stated here). Made by program out of texts by AI agents. -/
namespace Go.Proofs.YtknhdhchejmpgaaGreatDoor
open Go Go.RowKit Go.ChangeShapes Go.WideShapes Go.ChangeAt Go.Det Go.Pe
open Go.Proofs.Tryz (prog)
namespace CardChances
theorem inPlace:(Rows.cardChancesRow.inPlace==prog.inPlace 13)=true:=by kernel_rfl
theorem unfollowed:(Rows.cardChancesRow.unfollowed==prog.unfollowed 13)=true:=by kernel_rfl
theorem recurses:(Rows.cardChancesRow.recurses==prog.recurses 13)=true:=by kernel_rfl
theorem named:(Rows.cardChancesRow.named==prog.varsNamed 13)=true:=by kernel_rfl
theorem goes:false=Rows.cardChancesRow.goesBy prog:=by kernel_rfl
theorem sA:Rows.cardChancesRow.wfByText (OpenSpec.ofChange Rows.cardChancesSpec)=true:=by kernel_rfl
theorem funcNamed:prog.funcNamed Rows.cardChancesRow.func=some 13:=by kernel_rfl
theorem tQ:prog.inits.idxOf? 13=none:=by kernel_rfl
theorem oD:([70,70,3].all fun u=> !prog.wantsStandIn u)=true:=by kernel_rfl
theorem Wp:Tryz.f13.isInstance Tryz.pinned.checked.prog Rows.cardChancesRow.origin Rows.cardChancesRow.targs:=w6 (by kernel_rfl)
theorem Yr:Tryz.f13.isWrapper Tryz.pinned.checked.prog Rows.cardChancesRow.wrapper Rows.cardChancesRow.mainSum:=by unfold Func.isWrapper;first|(rw[wd (by decide+kernel)];kernel_rfl)|(rw[wc (by decide+kernel)];exact⟨rfl,rfl⟩)
theorem closed:joinedFacts prog 13 Tryz.f13 (OpenSpec.ofChange Rows.cardChancesSpec).bare Rows.cardChancesRow=true:=by
 unfold joinedFacts;refine BC (BC (BC (BC (BC (BC (BC (BC (BC (BC (BC (BC (BC (BC (BC (BC (BC (BC (BC (BC (BC (BC (BC (BC (BC (BC (BC (BC (BC (BC (BC
  (by kernel_rfl) R7.laidOut) R7.lJ) (by kernel_rfl)) (by kernel_rfl)) (by kernel_rfl)) (by kernel_rfl)) (by kernel_rfl)) (by kernel_rfl)) inPlace) unfollowed) recurses) named) (by kernel_rfl)) (by kernel_rfl)) (by kernel_rfl)) (by kernel_rfl)) (by kernel_rfl)) (by kernel_rfl)) (by kernel_rfl)) (by kernel_rfl)) (by kernel_rfl)) (by kernel_rfl)) (by kernel_rfl)) R7.heard) R7.enter) R7.wJ) R7.sY) (by kernel_rfl)) (by kernel_rfl)) (by kernel_rfl)) (by kernel_rfl)
end CardChances
end Go.Proofs.YtknhdhchejmpgaaGreatDoor
