import Derived.Test.YtmcnicakonagdaaGreatDoorX18
/- A part of a proof (no law is stated here). Made by program out of texts by AI agents. -/
namespace Go.Proofs.YtmcnicakonagdaaGreatDoor
open Go Go.RowKit Go.ChangeShapes Go.WideShapes Go.ChangeAt Go.Det Go.Pe
open Go.Proofs.Tryz (prog)
namespace RatingLines
theorem inPlace:(Rows.ratingLinesRow.inPlace==prog.inPlace 3)=true:=by kernel_rfl
theorem unfollowed:(Rows.ratingLinesRow.unfollowed==prog.unfollowed 3)=true:=by kernel_rfl
theorem recurses:(Rows.ratingLinesRow.recurses==prog.recurses 3)=true:=by kernel_rfl
theorem named:(Rows.ratingLinesRow.named==prog.varsNamed 3)=true:=by kernel_rfl
theorem goes:false=Rows.ratingLinesRow.goesBy prog:=by kernel_rfl
theorem wR:Rows.ratingLinesRow.wfByText (OpenSpec.ofChange Rows.ratingLinesSpec)=true:=by kernel_rfl
theorem funcNamed:prog.funcNamed Rows.ratingLinesRow.func=some 3:=by kernel_rfl
theorem uS:prog.inits.idxOf? 3=none:=by kernel_rfl
theorem pB:([22,23,23].all fun u=> !prog.wantsStandIn u)=true:=by kernel_rfl
theorem VY:Tryz.f3.isInstance Tryz.pinned.checked.prog Rows.ratingLinesRow.origin Rows.ratingLinesRow.targs:=w6 (by kernel_rfl)
theorem ZW:Tryz.f3.isWrapper Tryz.pinned.checked.prog Rows.ratingLinesRow.wrapper Rows.ratingLinesRow.mainSum:=by unfold Func.isWrapper;first|(rw[wd (by decide+kernel)];kernel_rfl)|(rw[wc (by decide+kernel)];exact⟨rfl,rfl⟩)
theorem closed:joinedFacts prog 3 Tryz.f3 (OpenSpec.ofChange Rows.ratingLinesSpec).bare Rows.ratingLinesRow=true:=by
 unfold joinedFacts;refine BD (BD (BD (BD (BD (BD (BD (BD (BD (BD (BD (BD (BD (BD (BD (BD (BD (BD (BD (BD (BD (BD (BD (BD (BD (BD (BD (BD (BD (BD (BD
  (by kernel_rfl) R7.laidOut) R7.nT) (by kernel_rfl)) (by kernel_rfl)) (by kernel_rfl)) (by kernel_rfl)) (by kernel_rfl)) (by kernel_rfl)) inPlace) unfollowed) recurses) named) (by kernel_rfl)) (by kernel_rfl)) (by kernel_rfl)) (by kernel_rfl)) (by kernel_rfl)) (by kernel_rfl)) (by kernel_rfl)) (by kernel_rfl)) (by kernel_rfl)) (by kernel_rfl)) (by kernel_rfl)) R7.heard) R7.enter) R7.Aah) R7.vB) (by kernel_rfl)) (by kernel_rfl)) (by kernel_rfl)) (by kernel_rfl)
end RatingLines
end Go.Proofs.YtmcnicakonagdaaGreatDoor
