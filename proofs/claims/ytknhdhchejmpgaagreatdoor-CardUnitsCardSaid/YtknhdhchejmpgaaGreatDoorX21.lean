import Derived.Test.YtknhdhchejmpgaaGreatDoorX18
/- A part of a proof (no law is stated here). Made by program out of texts by AI agents. -/
namespace Go.Proofs.YtknhdhchejmpgaaGreatDoor
open Go Go.RowKit Go.ChangeShapes Go.WideShapes Go.ChangeAt Go.Det Go.Pe
open Go.Proofs.Tryz (prog)
namespace CardUnits
theorem inPlace:(Rows.cardUnitsRow.inPlace==prog.inPlace 5)=true:=by kernel_rfl
theorem unfollowed:(Rows.cardUnitsRow.unfollowed==prog.unfollowed 5)=true:=by kernel_rfl
theorem recurses:(Rows.cardUnitsRow.recurses==prog.recurses 5)=true:=by kernel_rfl
theorem named:(Rows.cardUnitsRow.named==prog.varsNamed 5)=true:=by kernel_rfl
theorem goes:false=Rows.cardUnitsRow.goesBy prog:=by kernel_rfl
theorem VX:Rows.cardUnitsRow.wfByText (OpenSpec.ofChange Rows.cardUnitsSpec)=true:=by kernel_rfl
theorem funcNamed:prog.funcNamed Rows.cardUnitsRow.func=some 5:=by kernel_rfl
theorem UH:prog.inits.idxOf? 5=none:=by kernel_rfl
theorem R2:([22,3,3].all fun u=> !prog.wantsStandIn u)=true:=by kernel_rfl
theorem Jp:Tryz.f5.isInstance Tryz.pinned.checked.prog Rows.cardUnitsRow.origin Rows.cardUnitsRow.targs:=of_decide_eq_true (by kernel_rfl)
theorem Lm:Tryz.f5.isWrapper Tryz.pinned.checked.prog Rows.cardUnitsRow.wrapper Rows.cardUnitsRow.mainSum:=by unfold Func.isWrapper;first|(rw[if_pos (by decide+kernel)];kernel_rfl)|(rw[if_neg (by decide+kernel)];exact⟨rfl,rfl⟩)
theorem closed:joinedFacts prog 5 Tryz.f5 (OpenSpec.ofChange Rows.cardUnitsSpec).bare Rows.cardUnitsRow=true:=by
 unfold joinedFacts;refine AG (AG (AG (AG (AG (AG (AG (AG (AG (AG (AG (AG (AG (AG (AG (AG (AG (AG (AG (AG (AG (AG (AG (AG (AG (AG (AG (AG (AG (AG (AG
  (by kernel_rfl) R7.laidOut) R7.WU) (by kernel_rfl)) (by kernel_rfl)) (by kernel_rfl)) (by kernel_rfl)) (by kernel_rfl)) (by kernel_rfl)) inPlace) unfollowed) recurses) named) (by kernel_rfl)) (by kernel_rfl)) (by kernel_rfl)) (by kernel_rfl)) (by kernel_rfl)) (by kernel_rfl)) (by kernel_rfl)) (by kernel_rfl)) (by kernel_rfl)) (by kernel_rfl)) (by kernel_rfl)) R7.heard) R7.enter) R7.oY) R7.aL) (by kernel_rfl)) (by kernel_rfl)) (by kernel_rfl)) (by kernel_rfl)
end CardUnits
end Go.Proofs.YtknhdhchejmpgaaGreatDoor
