import Derived.Test.YtmcnicakonagdaaGreatDoorX18
/- A part of a proof (no law is stated here). Made by program out of texts by AI agents. -/
namespace Go.Proofs.YtmcnicakonagdaaGreatDoor
open Go Go.RowKit Go.ChangeShapes Go.WideShapes Go.ChangeAt Go.Det Go.Pe
open Go.Proofs.Tryz (prog)
namespace RatingSquares
theorem inPlace:(Rows.ratingSquaresRow.inPlace==prog.inPlace 4)=true:=by kernel_rfl
theorem unfollowed:(Rows.ratingSquaresRow.unfollowed==prog.unfollowed 4)=true:=by kernel_rfl
theorem recurses:(Rows.ratingSquaresRow.recurses==prog.recurses 4)=true:=by kernel_rfl
theorem named:(Rows.ratingSquaresRow.named==prog.varsNamed 4)=true:=by kernel_rfl
theorem goes:false=Rows.ratingSquaresRow.goesBy prog:=by kernel_rfl
theorem yG:Rows.ratingSquaresRow.wfByText (OpenSpec.ofChange Rows.ratingSquaresSpec)=true:=by kernel_rfl
theorem funcNamed:prog.funcNamed Rows.ratingSquaresRow.func=some 4:=by kernel_rfl
theorem vQ:prog.inits.idxOf? 4=none:=by kernel_rfl
theorem oF:([22,23,23].all fun u=> !prog.wantsStandIn u)=true:=by kernel_rfl
theorem W2:Tryz.f4.isInstance Tryz.pinned.checked.prog Rows.ratingSquaresRow.origin Rows.ratingSquaresRow.targs:=w6 (by kernel_rfl)
theorem Zc:Tryz.f4.isWrapper Tryz.pinned.checked.prog Rows.ratingSquaresRow.wrapper Rows.ratingSquaresRow.mainSum:=by unfold Func.isWrapper;first|(rw[wd (by decide+kernel)];kernel_rfl)|(rw[wc (by decide+kernel)];exact⟨rfl,rfl⟩)
theorem closed:joinedFacts prog 4 Tryz.f4 (OpenSpec.ofChange Rows.ratingSquaresSpec).bare Rows.ratingSquaresRow=true:=by
 unfold joinedFacts;refine BH (BH (BH (BH (BH (BH (BH (BH (BH (BH (BH (BH (BH (BH (BH (BH (BH (BH (BH (BH (BH (BH (BH (BH (BH (BH (BH (BH (BH (BH (BH
  (by kernel_rfl) R7.laidOut) R7.oN) (by kernel_rfl)) (by kernel_rfl)) (by kernel_rfl)) (by kernel_rfl)) (by kernel_rfl)) (by kernel_rfl)) inPlace) unfollowed) recurses) named) (by kernel_rfl)) (by kernel_rfl)) (by kernel_rfl)) (by kernel_rfl)) (by kernel_rfl)) (by kernel_rfl)) (by kernel_rfl)) (by kernel_rfl)) (by kernel_rfl)) (by kernel_rfl)) (by kernel_rfl)) R7.heard) R7.enter) R7.Aah) R7.xE) (by kernel_rfl)) (by kernel_rfl)) (by kernel_rfl)) (by kernel_rfl)
end RatingSquares
end Go.Proofs.YtmcnicakonagdaaGreatDoor
