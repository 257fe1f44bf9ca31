import Derived.Test.YtlapcggejnojjaaGreatDoorX15
/- A part of a proof (no law is stated here). Made by program out of texts by AI agents. -/
namespace Go.Proofs.YtlapcggejnojjaaGreatDoor
open Go Go.RowKit Go.ChangeShapes Go.WideShapes Go.ChangeAt Go.Det Go.Pe
open Go.Proofs.Tryz (prog)
namespace CardForms
theorem inPlace:(Rows.cardFormsRow.inPlace==prog.inPlace 3)=true:=by kernel_rfl
theorem unfollowed:(Rows.cardFormsRow.unfollowed==prog.unfollowed 3)=true:=by kernel_rfl
theorem recurses:(Rows.cardFormsRow.recurses==prog.recurses 3)=true:=by kernel_rfl
theorem named:(Rows.cardFormsRow.named==prog.varsNamed 3)=true:=by kernel_rfl
theorem goes:false=Rows.cardFormsRow.goesBy prog:=by kernel_rfl
theorem H2:Rows.cardFormsRow.wfByText (OpenSpec.ofChange Rows.cardFormsSpec)=true:=by kernel_rfl
theorem funcNamed:prog.funcNamed Rows.cardFormsRow.func=some 3:=by kernel_rfl
theorem HQ:prog.inits.idxOf? 3=none:=by kernel_rfl
theorem FU:([9].all fun u=> !prog.wantsStandIn u)=true:=by kernel_rfl
theorem CQ:Tryz.f3.isInstance Tryz.pinned.checked.prog Rows.cardFormsRow.origin Rows.cardFormsRow.targs:=of_decide_eq_true (by kernel_rfl)
theorem Dp:Tryz.f3.isWrapper Tryz.pinned.checked.prog Rows.cardFormsRow.wrapper Rows.cardFormsRow.mainSum:=by unfold Func.isWrapper;first|(rw[if_pos (by decide+kernel)];kernel_rfl)|(rw[if_neg (by decide+kernel)];exact⟨rfl,rfl⟩)
theorem closed:joinedFacts prog 3 Tryz.f3 (OpenSpec.ofChange Rows.cardFormsSpec).bare Rows.cardFormsRow=true:=by
 unfold joinedFacts;refine Ae (Ae (Ae (Ae (Ae (Ae (Ae (Ae (Ae (Ae (Ae (Ae (Ae (Ae (Ae (Ae (Ae (Ae (Ae (Ae (Ae (Ae (Ae (Ae (Ae (Ae (Ae (Ae (Ae (Ae (Ae
  (by kernel_rfl) R7.laidOut) R7.KI) (by kernel_rfl)) (by kernel_rfl)) (by kernel_rfl)) (by kernel_rfl)) (by kernel_rfl)) (by kernel_rfl)) inPlace) unfollowed) recurses) named) (by kernel_rfl)) (by kernel_rfl)) (by kernel_rfl)) (by kernel_rfl)) (by kernel_rfl)) (by kernel_rfl)) (by kernel_rfl)) (by kernel_rfl)) (by kernel_rfl)) (by kernel_rfl)) (by kernel_rfl)) R7.heard) R7.enter) R7.SQ) R7.Om) (by kernel_rfl)) (by kernel_rfl)) (by kernel_rfl)) (by kernel_rfl)
end CardForms
end Go.Proofs.YtlapcggejnojjaaGreatDoor
