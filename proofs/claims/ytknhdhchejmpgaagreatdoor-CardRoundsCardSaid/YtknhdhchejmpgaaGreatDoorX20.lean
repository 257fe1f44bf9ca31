import Derived.Test.YtknhdhchejmpgaaGreatDoorX17
/- A part of a proof (no law is stated here). Made by program out of texts by AI agents. -/
namespace Go.Proofs.YtknhdhchejmpgaaGreatDoor
open Go Go.RowKit Go.ChangeShapes Go.WideShapes Go.ChangeAt Go.Det Go.Pe
open Go.Proofs.Tryz (prog)
namespace CardRounds
theorem inPlace:(Rows.cardRoundsRow.inPlace==prog.inPlace 6)=true:=by kernel_rfl
theorem unfollowed:(Rows.cardRoundsRow.unfollowed==prog.unfollowed 6)=true:=by kernel_rfl
theorem recurses:(Rows.cardRoundsRow.recurses==prog.recurses 6)=true:=by kernel_rfl
theorem named:(Rows.cardRoundsRow.named==prog.varsNamed 6)=true:=by kernel_rfl
theorem goes:false=Rows.cardRoundsRow.goesBy prog:=by kernel_rfl
theorem V7:Rows.cardRoundsRow.wfByText (OpenSpec.ofChange Rows.cardRoundsSpec)=true:=by kernel_rfl
theorem funcNamed:prog.funcNamed Rows.cardRoundsRow.func=some 6:=by kernel_rfl
theorem Wn:prog.inits.idxOf? 6=none:=by kernel_rfl
theorem SL:([22,22].all fun u=> !prog.wantsStandIn u)=true:=by kernel_rfl
theorem JN:Tryz.f6.isInstance Tryz.pinned.checked.prog Rows.cardRoundsRow.origin Rows.cardRoundsRow.targs:=w6 (by kernel_rfl)
theorem LO:Tryz.f6.isWrapper Tryz.pinned.checked.prog Rows.cardRoundsRow.wrapper Rows.cardRoundsRow.mainSum:=by unfold Func.isWrapper;first|(rw[wd (by decide+kernel)];kernel_rfl)|(rw[wc (by decide+kernel)];exact⟨rfl,rfl⟩)
theorem closed:joinedFacts prog 6 Tryz.f6 (OpenSpec.ofChange Rows.cardRoundsSpec).bare Rows.cardRoundsRow=true:=by
 unfold joinedFacts;refine AJ (AJ (AJ (AJ (AJ (AJ (AJ (AJ (AJ (AJ (AJ (AJ (AJ (AJ (AJ (AJ (AJ (AJ (AJ (AJ (AJ (AJ (AJ (AJ (AJ (AJ (AJ (AJ (AJ (AJ (AJ
  (by kernel_rfl) R7.laidOut) R7.XS) (by kernel_rfl)) (by kernel_rfl)) (by kernel_rfl)) (by kernel_rfl)) (by kernel_rfl)) (by kernel_rfl)) inPlace) unfollowed) recurses) named) (by kernel_rfl)) (by kernel_rfl)) (by kernel_rfl)) (by kernel_rfl)) (by kernel_rfl)) (by kernel_rfl)) (by kernel_rfl)) (by kernel_rfl)) (by kernel_rfl)) (by kernel_rfl)) (by kernel_rfl)) R7.heard) R7.enter) R7.qB) R7.dT) (by kernel_rfl)) (by kernel_rfl)) (by kernel_rfl)) (by kernel_rfl)
end CardRounds
end Go.Proofs.YtknhdhchejmpgaaGreatDoor
