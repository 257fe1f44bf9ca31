import Derived.Test.YtknhdhchejmpgaaGreatDoorX17
/- A part of a proof (no law is stated here). Made by program out of texts by AI agents. -/
namespace Go.Proofs.YtknhdhchejmpgaaGreatDoor
open Go Go.RowKit Go.ChangeShapes Go.WideShapes Go.ChangeAt Go.Det Go.Pe
open Go.Proofs.Tryz (prog)
namespace CardOperations
theorem inPlace:(Rows.cardOperationsRow.inPlace==prog.inPlace 3)=true:=by kernel_rfl
theorem unfollowed:(Rows.cardOperationsRow.unfollowed==prog.unfollowed 3)=true:=by kernel_rfl
theorem recurses:(Rows.cardOperationsRow.recurses==prog.recurses 3)=true:=by kernel_rfl
theorem named:(Rows.cardOperationsRow.named==prog.varsNamed 3)=true:=by kernel_rfl
theorem goes:false=Rows.cardOperationsRow.goesBy prog:=by kernel_rfl
theorem Vf:Rows.cardOperationsRow.wfByText (OpenSpec.ofChange Rows.cardOperationsSpec)=true:=by kernel_rfl
theorem funcNamed:prog.funcNamed Rows.cardOperationsRow.func=some 3:=by kernel_rfl
theorem Ul:prog.inits.idxOf? 3=none:=by kernel_rfl
theorem Qp:([22,22].all fun u=> !prog.wantsStandIn u)=true:=by kernel_rfl
theorem JA:Tryz.f3.isInstance Tryz.pinned.checked.prog Rows.cardOperationsRow.origin Rows.cardOperationsRow.targs:=of_decide_eq_true (by kernel_rfl)
theorem Lr:Tryz.f3.isWrapper Tryz.pinned.checked.prog Rows.cardOperationsRow.wrapper Rows.cardOperationsRow.mainSum:=by unfold Func.isWrapper;first|(rw[if_pos (by decide+kernel)];kernel_rfl)|(rw[if_neg (by decide+kernel)];exact⟨rfl,rfl⟩)
theorem closed:joinedFacts prog 3 Tryz.f3 (OpenSpec.ofChange Rows.cardOperationsSpec).bare Rows.cardOperationsRow=true:=by
 unfold joinedFacts;refine AG (AG (AG (AG (AG (AG (AG (AG (AG (AG (AG (AG (AG (AG (AG (AG (AG (AG (AG (AG (AG (AG (AG (AG (AG (AG (AG (AG (AG (AG (AG
  (by kernel_rfl) R7.laidOut) R7.W2) (by kernel_rfl)) (by kernel_rfl)) (by kernel_rfl)) (by kernel_rfl)) (by kernel_rfl)) (by kernel_rfl)) inPlace) unfollowed) recurses) named) (by kernel_rfl)) (by kernel_rfl)) (by kernel_rfl)) (by kernel_rfl)) (by kernel_rfl)) (by kernel_rfl)) (by kernel_rfl)) (by kernel_rfl)) (by kernel_rfl)) (by kernel_rfl)) (by kernel_rfl)) R7.heard) R7.enter) R7.mN) R7.aF) (by kernel_rfl)) (by kernel_rfl)) (by kernel_rfl)) (by kernel_rfl)
end CardOperations
end Go.Proofs.YtknhdhchejmpgaaGreatDoor
