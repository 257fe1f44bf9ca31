import Derived.Test.YtknhdhchejmpgaaGreatDoorX17
/- A part of a proof (no law is stated here). Made by program out of texts by AI agents. -/
namespace Go.Proofs.YtknhdhchejmpgaaGreatDoor
open Go Go.RowKit Go.ChangeShapes Go.WideShapes Go.ChangeAt Go.Det Go.Pe
open Go.Proofs.Tryz (prog)
namespace CardField
theorem inPlace:(Rows.cardFieldRow.inPlace==prog.inPlace 4)=true:=by kernel_rfl
theorem unfollowed:(Rows.cardFieldRow.unfollowed==prog.unfollowed 4)=true:=by kernel_rfl
theorem recurses:(Rows.cardFieldRow.recurses==prog.recurses 4)=true:=by kernel_rfl
theorem named:(Rows.cardFieldRow.named==prog.varsNamed 4)=true:=by kernel_rfl
theorem goes:false=Rows.cardFieldRow.goesBy prog:=by kernel_rfl
theorem Vf:Rows.cardFieldRow.wfByText (OpenSpec.ofChange Rows.cardFieldSpec)=true:=by kernel_rfl
theorem funcNamed:prog.funcNamed Rows.cardFieldRow.func=some 4:=by kernel_rfl
theorem Ul:prog.inits.idxOf? 4=none:=by kernel_rfl
theorem Qp:([22,22,22].all fun u=> !prog.wantsStandIn u)=true:=by kernel_rfl
theorem JA:Tryz.f4.isInstance Tryz.pinned.checked.prog Rows.cardFieldRow.origin Rows.cardFieldRow.targs:=of_decide_eq_true (by kernel_rfl)
theorem Lr:Tryz.f4.isWrapper Tryz.pinned.checked.prog Rows.cardFieldRow.wrapper Rows.cardFieldRow.mainSum:=by unfold Func.isWrapper;first|(rw[if_pos (by decide+kernel)];kernel_rfl)|(rw[if_neg (by decide+kernel)];exact⟨rfl,rfl⟩)
theorem closed:joinedFacts prog 4 Tryz.f4 (OpenSpec.ofChange Rows.cardFieldSpec).bare Rows.cardFieldRow=true:=by
 unfold joinedFacts;refine AG (AG (AG (AG (AG (AG (AG (AG (AG (AG (AG (AG (AG (AG (AG (AG (AG (AG (AG (AG (AG (AG (AG (AG (AG (AG (AG (AG (AG (AG (AG
  (by kernel_rfl) R7.laidOut) R7.W2) (by kernel_rfl)) (by kernel_rfl)) (by kernel_rfl)) (by kernel_rfl)) (by kernel_rfl)) (by kernel_rfl)) inPlace) unfollowed) recurses) named) (by kernel_rfl)) (by kernel_rfl)) (by kernel_rfl)) (by kernel_rfl)) (by kernel_rfl)) (by kernel_rfl)) (by kernel_rfl)) (by kernel_rfl)) (by kernel_rfl)) (by kernel_rfl)) (by kernel_rfl)) R7.heard) R7.enter) R7.mN) R7.aF) (by kernel_rfl)) (by kernel_rfl)) (by kernel_rfl)) (by kernel_rfl)
end CardField
end Go.Proofs.YtknhdhchejmpgaaGreatDoor
