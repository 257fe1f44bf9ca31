import Derived.Test.YtlohiljbghionaaGreatDoorX19
/- A part of a proof (no law is stated here). Made by program out of texts by AI agents. -/
namespace Go.Proofs.YtlohiljbghionaaGreatDoor
open Go Go.RowKit Go.ChangeShapes Go.WideShapes Go.ChangeAt Go.Det Go.Pe
open Go.Proofs.Tryz (prog)
namespace RatingLengths
theorem inPlace:(Rows.ratingLengthsRow.inPlace==prog.inPlace 4)=true:=by kernel_rfl
theorem unfollowed:(Rows.ratingLengthsRow.unfollowed==prog.unfollowed 4)=true:=by kernel_rfl
theorem recurses:(Rows.ratingLengthsRow.recurses==prog.recurses 4)=true:=by kernel_rfl
theorem named:(Rows.ratingLengthsRow.named==prog.varsNamed 4)=true:=by kernel_rfl
theorem goes:false=Rows.ratingLengthsRow.goesBy prog:=by kernel_rfl
theorem Abm:Rows.ratingLengthsRow.wfByText (OpenSpec.ofChange Rows.ratingLengthsSpec)=true:=by kernel_rfl
theorem funcNamed:prog.funcNamed Rows.ratingLengthsRow.func=some 4:=by kernel_rfl
theorem Ab3:prog.inits.idxOf? 4=none:=by kernel_rfl
theorem uN:([26,52].all fun u=> !prog.wantsStandIn u)=true:=by kernel_rfl
theorem WM:Tryz.f4.isInstance Tryz.pinned.checked.prog Rows.ratingLengthsRow.origin Rows.ratingLengthsRow.targs:=w6 (by kernel_rfl)
theorem dK:Tryz.f4.isWrapper Tryz.pinned.checked.prog Rows.ratingLengthsRow.wrapper Rows.ratingLengthsRow.mainSum:=by unfold Func.isWrapper;first|(rw[wd<|by decide+kernel];kernel_rfl)|(rw[wc<|by decide+kernel];exact⟨rfl,rfl⟩)
theorem closed:joinedFacts prog 4 Tryz.f4 (OpenSpec.ofChange Rows.ratingLengthsSpec).bare Rows.ratingLengthsRow=true:=by
 unfold joinedFacts;refine BN (BN (BN (BN (BN (BN (BN (BN (BN (BN (BN (BN (BN (BN (BN (BN (BN (BN (BN (BN (BN (BN (BN (BN (BN (BN (BN (BN (BN (BN (BN
  (by kernel_rfl) R7.laidOut) R7.xO)<|by kernel_rfl)<|by kernel_rfl)<|by kernel_rfl)<|by kernel_rfl)<|by kernel_rfl)<|by kernel_rfl) inPlace) unfollowed) recurses) named)<|by kernel_rfl)<|by kernel_rfl)<|by kernel_rfl)<|by kernel_rfl)<|by kernel_rfl)<|by kernel_rfl)<|by kernel_rfl)<|by kernel_rfl)<|by kernel_rfl)<|by kernel_rfl)<|by kernel_rfl) R7.heard) R7.enter) R7.Adh) R7.AbE)<|by kernel_rfl)<|by kernel_rfl)<|by kernel_rfl) (by kernel_rfl)
end RatingLengths
end Go.Proofs.YtlohiljbghionaaGreatDoor
