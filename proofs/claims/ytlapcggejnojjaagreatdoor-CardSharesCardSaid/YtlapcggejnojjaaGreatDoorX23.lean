import Derived.Test.YtlapcggejnojjaaGreatDoorX15
/- A part of a proof (no law is stated here). Made by program out of texts by AI agents. -/
namespace Go.Proofs.YtlapcggejnojjaaGreatDoor
open Go Go.RowKit Go.ChangeShapes Go.WideShapes Go.ChangeAt Go.Det Go.Pe
open Go.Proofs.Tryz (prog)
namespace CardShares
theorem inPlace:(Rows.cardSharesRow.inPlace==prog.inPlace 4)=true:=by kernel_rfl
theorem unfollowed:(Rows.cardSharesRow.unfollowed==prog.unfollowed 4)=true:=by kernel_rfl
theorem recurses:(Rows.cardSharesRow.recurses==prog.recurses 4)=true:=by kernel_rfl
theorem named:(Rows.cardSharesRow.named==prog.varsNamed 4)=true:=by kernel_rfl
theorem goes:false=Rows.cardSharesRow.goesBy prog:=by kernel_rfl
theorem H2:Rows.cardSharesRow.wfByText (OpenSpec.ofChange Rows.cardSharesSpec)=true:=by kernel_rfl
theorem funcNamed:prog.funcNamed Rows.cardSharesRow.func=some 4:=by kernel_rfl
theorem HQ:prog.inits.idxOf? 4=none:=by kernel_rfl
theorem FU:([3,28].all fun u=> !prog.wantsStandIn u)=true:=by kernel_rfl
theorem CQ:Tryz.f4.isInstance Tryz.pinned.checked.prog Rows.cardSharesRow.origin Rows.cardSharesRow.targs:=of_decide_eq_true (by kernel_rfl)
theorem Dp:Tryz.f4.isWrapper Tryz.pinned.checked.prog Rows.cardSharesRow.wrapper Rows.cardSharesRow.mainSum:=by unfold Func.isWrapper;first|(rw[if_pos (by decide+kernel)];kernel_rfl)|(rw[if_neg (by decide+kernel)];exact⟨rfl,rfl⟩)
theorem closed:joinedFacts prog 4 Tryz.f4 (OpenSpec.ofChange Rows.cardSharesSpec).bare Rows.cardSharesRow=true:=by
 unfold joinedFacts;refine Ae (Ae (Ae (Ae (Ae (Ae (Ae (Ae (Ae (Ae (Ae (Ae (Ae (Ae (Ae (Ae (Ae (Ae (Ae (Ae (Ae (Ae (Ae (Ae (Ae (Ae (Ae (Ae (Ae (Ae (Ae
  (by kernel_rfl) R7.laidOut) R7.KI) (by kernel_rfl)) (by kernel_rfl)) (by kernel_rfl)) (by kernel_rfl)) (by kernel_rfl)) (by kernel_rfl)) inPlace) unfollowed) recurses) named) (by kernel_rfl)) (by kernel_rfl)) (by kernel_rfl)) (by kernel_rfl)) (by kernel_rfl)) (by kernel_rfl)) (by kernel_rfl)) (by kernel_rfl)) (by kernel_rfl)) (by kernel_rfl)) (by kernel_rfl)) R7.heard) R7.enter) R7.SQ) R7.Om) (by kernel_rfl)) (by kernel_rfl)) (by kernel_rfl)) (by kernel_rfl)
end CardShares
end Go.Proofs.YtlapcggejnojjaaGreatDoor
