import Derived.Test.YtlapcggejnojjaaGreatDoorX15
/- A part of a proof (no law is stated here). Made by program out of texts by AI agents. -/
namespace Go.Proofs.YtlapcggejnojjaaGreatDoor
open Go Go.RowKit Go.ChangeShapes Go.WideShapes Go.ChangeAt Go.Det Go.Pe
open Go.Proofs.Tryz (prog)
namespace CardFair
theorem inPlace:(Rows.cardFairRow.inPlace==prog.inPlace 5)=true:=by kernel_rfl
theorem unfollowed:(Rows.cardFairRow.unfollowed==prog.unfollowed 5)=true:=by kernel_rfl
theorem recurses:(Rows.cardFairRow.recurses==prog.recurses 5)=true:=by kernel_rfl
theorem named:(Rows.cardFairRow.named==prog.varsNamed 5)=true:=by kernel_rfl
theorem goes:false=Rows.cardFairRow.goesBy prog:=by kernel_rfl
theorem H2:Rows.cardFairRow.wfByText (OpenSpec.ofChange Rows.cardFairSpec)=true:=by kernel_rfl
theorem funcNamed:prog.funcNamed Rows.cardFairRow.func=some 5:=by kernel_rfl
theorem HQ:prog.inits.idxOf? 5=none:=by kernel_rfl
theorem FU:([3,28].all fun u=> !prog.wantsStandIn u)=true:=by kernel_rfl
theorem CQ:Tryz.f5.isInstance Tryz.pinned.checked.prog Rows.cardFairRow.origin Rows.cardFairRow.targs:=of_decide_eq_true (by kernel_rfl)
theorem Dp:Tryz.f5.isWrapper Tryz.pinned.checked.prog Rows.cardFairRow.wrapper Rows.cardFairRow.mainSum:=by unfold Func.isWrapper;first|(rw[if_pos (by decide+kernel)];kernel_rfl)|(rw[if_neg (by decide+kernel)];exact⟨rfl,rfl⟩)
theorem closed:joinedFacts prog 5 Tryz.f5 (OpenSpec.ofChange Rows.cardFairSpec).bare Rows.cardFairRow=true:=by
 unfold joinedFacts;refine Ae (Ae (Ae (Ae (Ae (Ae (Ae (Ae (Ae (Ae (Ae (Ae (Ae (Ae (Ae (Ae (Ae (Ae (Ae (Ae (Ae (Ae (Ae (Ae (Ae (Ae (Ae (Ae (Ae (Ae (Ae
  (by kernel_rfl) R7.laidOut) R7.KI) (by kernel_rfl)) (by kernel_rfl)) (by kernel_rfl)) (by kernel_rfl)) (by kernel_rfl)) (by kernel_rfl)) inPlace) unfollowed) recurses) named) (by kernel_rfl)) (by kernel_rfl)) (by kernel_rfl)) (by kernel_rfl)) (by kernel_rfl)) (by kernel_rfl)) (by kernel_rfl)) (by kernel_rfl)) (by kernel_rfl)) (by kernel_rfl)) (by kernel_rfl)) R7.heard) R7.enter) R7.SQ) R7.Om) (by kernel_rfl)) (by kernel_rfl)) (by kernel_rfl)) (by kernel_rfl)
end CardFair
end Go.Proofs.YtlapcggejnojjaaGreatDoor
