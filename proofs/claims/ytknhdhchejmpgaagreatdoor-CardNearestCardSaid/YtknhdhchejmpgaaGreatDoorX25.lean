import Derived.Test.YtknhdhchejmpgaaGreatDoorX18
/- A part of a proof (no law is stated here). Made by program out of texts by AI agents. -/
namespace Go.Proofs.YtknhdhchejmpgaaGreatDoor
open Go Go.RowKit Go.ChangeShapes Go.WideShapes Go.ChangeAt Go.Det Go.Pe
open Go.Proofs.Tryz (prog)
namespace CardNearest
theorem inPlace:(Rows.cardNearestRow.inPlace==prog.inPlace 7)=true:=by kernel_rfl
theorem unfollowed:(Rows.cardNearestRow.unfollowed==prog.unfollowed 7)=true:=by kernel_rfl
theorem recurses:(Rows.cardNearestRow.recurses==prog.recurses 7)=true:=by kernel_rfl
theorem named:(Rows.cardNearestRow.named==prog.varsNamed 7)=true:=by kernel_rfl
theorem goes:false=Rows.cardNearestRow.goesBy prog:=by kernel_rfl
theorem VX:Rows.cardNearestRow.wfByText (OpenSpec.ofChange Rows.cardNearestSpec)=true:=by kernel_rfl
theorem funcNamed:prog.funcNamed Rows.cardNearestRow.func=some 7:=by kernel_rfl
theorem UH:prog.inits.idxOf? 7=none:=by kernel_rfl
theorem R2:([22,22,3].all fun u=> !prog.wantsStandIn u)=true:=by kernel_rfl
theorem Jp:Tryz.f7.isInstance Tryz.pinned.checked.prog Rows.cardNearestRow.origin Rows.cardNearestRow.targs:=of_decide_eq_true (by kernel_rfl)
theorem Lm:Tryz.f7.isWrapper Tryz.pinned.checked.prog Rows.cardNearestRow.wrapper Rows.cardNearestRow.mainSum:=by unfold Func.isWrapper;first|(rw[if_pos (by decide+kernel)];kernel_rfl)|(rw[if_neg (by decide+kernel)];exact⟨rfl,rfl⟩)
theorem closed:joinedFacts prog 7 Tryz.f7 (OpenSpec.ofChange Rows.cardNearestSpec).bare Rows.cardNearestRow=true:=by
 unfold joinedFacts;refine AG (AG (AG (AG (AG (AG (AG (AG (AG (AG (AG (AG (AG (AG (AG (AG (AG (AG (AG (AG (AG (AG (AG (AG (AG (AG (AG (AG (AG (AG (AG
  (by kernel_rfl) R7.laidOut) R7.WU) (by kernel_rfl)) (by kernel_rfl)) (by kernel_rfl)) (by kernel_rfl)) (by kernel_rfl)) (by kernel_rfl)) inPlace) unfollowed) recurses) named) (by kernel_rfl)) (by kernel_rfl)) (by kernel_rfl)) (by kernel_rfl)) (by kernel_rfl)) (by kernel_rfl)) (by kernel_rfl)) (by kernel_rfl)) (by kernel_rfl)) (by kernel_rfl)) (by kernel_rfl)) R7.heard) R7.enter) R7.oY) R7.aL) (by kernel_rfl)) (by kernel_rfl)) (by kernel_rfl)) (by kernel_rfl)
end CardNearest
end Go.Proofs.YtknhdhchejmpgaaGreatDoor
