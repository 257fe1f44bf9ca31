import Derived.Test.YtknhdhchejmpgaaGreatDoorX17
/- A part of a proof (no law is stated here). Made by program out of texts by AI agents. -/
namespace Go.Proofs.YtknhdhchejmpgaaGreatDoor
open Go Go.RowKit Go.ChangeShapes Go.WideShapes Go.ChangeAt Go.Det Go.Pe
open Go.Proofs.Tryz (prog)
namespace CardBetween
theorem inPlace:(Rows.cardBetweenRow.inPlace==prog.inPlace 9)=true:=by kernel_rfl
theorem unfollowed:(Rows.cardBetweenRow.unfollowed==prog.unfollowed 9)=true:=by kernel_rfl
theorem recurses:(Rows.cardBetweenRow.recurses==prog.recurses 9)=true:=by kernel_rfl
theorem named:(Rows.cardBetweenRow.named==prog.varsNamed 9)=true:=by kernel_rfl
theorem goes:false=Rows.cardBetweenRow.goesBy prog:=by kernel_rfl
theorem V7:Rows.cardBetweenRow.wfByText (OpenSpec.ofChange Rows.cardBetweenSpec)=true:=by kernel_rfl
theorem funcNamed:prog.funcNamed Rows.cardBetweenRow.func=some 9:=by kernel_rfl
theorem Wn:prog.inits.idxOf? 9=none:=by kernel_rfl
theorem SL:([47,5,5].all fun u=> !prog.wantsStandIn u)=true:=by kernel_rfl
theorem JN:Tryz.f9.isInstance Tryz.pinned.checked.prog Rows.cardBetweenRow.origin Rows.cardBetweenRow.targs:=w6 (by kernel_rfl)
theorem LO:Tryz.f9.isWrapper Tryz.pinned.checked.prog Rows.cardBetweenRow.wrapper Rows.cardBetweenRow.mainSum:=by unfold Func.isWrapper;first|(rw[wd (by decide+kernel)];kernel_rfl)|(rw[wc (by decide+kernel)];exact⟨rfl,rfl⟩)
theorem closed:joinedFacts prog 9 Tryz.f9 (OpenSpec.ofChange Rows.cardBetweenSpec).bare Rows.cardBetweenRow=true:=by
 unfold joinedFacts;refine AJ (AJ (AJ (AJ (AJ (AJ (AJ (AJ (AJ (AJ (AJ (AJ (AJ (AJ (AJ (AJ (AJ (AJ (AJ (AJ (AJ (AJ (AJ (AJ (AJ (AJ (AJ (AJ (AJ (AJ (AJ
  (by kernel_rfl) R7.laidOut) R7.XS) (by kernel_rfl)) (by kernel_rfl)) (by kernel_rfl)) (by kernel_rfl)) (by kernel_rfl)) (by kernel_rfl)) inPlace) unfollowed) recurses) named) (by kernel_rfl)) (by kernel_rfl)) (by kernel_rfl)) (by kernel_rfl)) (by kernel_rfl)) (by kernel_rfl)) (by kernel_rfl)) (by kernel_rfl)) (by kernel_rfl)) (by kernel_rfl)) (by kernel_rfl)) R7.heard) R7.enter) R7.qB) R7.dT) (by kernel_rfl)) (by kernel_rfl)) (by kernel_rfl)) (by kernel_rfl)
end CardBetween
end Go.Proofs.YtknhdhchejmpgaaGreatDoor
