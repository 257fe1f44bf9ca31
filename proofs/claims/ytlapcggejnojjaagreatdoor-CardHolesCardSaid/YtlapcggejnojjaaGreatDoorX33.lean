import Derived.Test.YtlapcggejnojjaaGreatDoorX15
/- A part of a proof (no law is stated here). Made by program out of texts by AI agents. -/
namespace Go.Proofs.YtlapcggejnojjaaGreatDoor
open Go Go.RowKit Go.ChangeShapes Go.WideShapes Go.ChangeAt Go.Det Go.Pe
open Go.Proofs.Tryz (prog)
namespace CardHoles
theorem inPlace:(Rows.cardHolesRow.inPlace==prog.inPlace 6)=true:=by kernel_rfl
theorem unfollowed:(Rows.cardHolesRow.unfollowed==prog.unfollowed 6)=true:=by kernel_rfl
theorem recurses:(Rows.cardHolesRow.recurses==prog.recurses 6)=true:=by kernel_rfl
theorem named:(Rows.cardHolesRow.named==prog.varsNamed 6)=true:=by kernel_rfl
theorem goes:false=Rows.cardHolesRow.goesBy prog:=by kernel_rfl
theorem H2:Rows.cardHolesRow.wfByText (OpenSpec.ofChange Rows.cardHolesSpec)=true:=by kernel_rfl
theorem funcNamed:prog.funcNamed Rows.cardHolesRow.func=some 6:=by kernel_rfl
theorem HQ:prog.inits.idxOf? 6=none:=by kernel_rfl
theorem FU:([36,39].all fun u=> !prog.wantsStandIn u)=true:=by kernel_rfl
theorem CQ:Tryz.f6.isInstance Tryz.pinned.checked.prog Rows.cardHolesRow.origin Rows.cardHolesRow.targs:=of_decide_eq_true (by kernel_rfl)
theorem Dp:Tryz.f6.isWrapper Tryz.pinned.checked.prog Rows.cardHolesRow.wrapper Rows.cardHolesRow.mainSum:=by unfold Func.isWrapper;first|(rw[if_pos (by decide+kernel)];kernel_rfl)|(rw[if_neg (by decide+kernel)];exact⟨rfl,rfl⟩)
theorem closed:joinedFacts prog 6 Tryz.f6 (OpenSpec.ofChange Rows.cardHolesSpec).bare Rows.cardHolesRow=true:=by
 unfold joinedFacts;refine Ae (Ae (Ae (Ae (Ae (Ae (Ae (Ae (Ae (Ae (Ae (Ae (Ae (Ae (Ae (Ae (Ae (Ae (Ae (Ae (Ae (Ae (Ae (Ae (Ae (Ae (Ae (Ae (Ae (Ae (Ae
  (by kernel_rfl) R7.laidOut) R7.KI) (by kernel_rfl)) (by kernel_rfl)) (by kernel_rfl)) (by kernel_rfl)) (by kernel_rfl)) (by kernel_rfl)) inPlace) unfollowed) recurses) named) (by kernel_rfl)) (by kernel_rfl)) (by kernel_rfl)) (by kernel_rfl)) (by kernel_rfl)) (by kernel_rfl)) (by kernel_rfl)) (by kernel_rfl)) (by kernel_rfl)) (by kernel_rfl)) (by kernel_rfl)) R7.heard) R7.enter) R7.SQ) R7.Om) (by kernel_rfl)) (by kernel_rfl)) (by kernel_rfl)) (by kernel_rfl)
end CardHoles
end Go.Proofs.YtlapcggejnojjaaGreatDoor
