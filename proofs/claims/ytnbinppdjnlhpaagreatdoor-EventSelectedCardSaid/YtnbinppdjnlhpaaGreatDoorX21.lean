import Derived.Test.YtnbinppdjnlhpaaGreatDoorX18
/- A part of a proof (no law is stated here). Made by program out of texts by AI agents. -/
namespace Go.Proofs.YtnbinppdjnlhpaaGreatDoor
open Go Go.RowKit Go.ChangeShapes Go.WideShapes Go.ChangeAt Go.Det Go.Pe
open Go.Proofs.Tryz (prog)
namespace EventSelected
theorem inPlace:(Rows.eventSelectedRow.inPlace==prog.inPlace 8)=true:=by kernel_rfl
theorem unfollowed:(Rows.eventSelectedRow.unfollowed==prog.unfollowed 8)=true:=by kernel_rfl
theorem recurses:(Rows.eventSelectedRow.recurses==prog.recurses 8)=true:=by kernel_rfl
theorem named:(Rows.eventSelectedRow.named==prog.varsNamed 8)=true:=by kernel_rfl
theorem goes:false=Rows.eventSelectedRow.goesBy prog:=by kernel_rfl
theorem fY:Rows.eventSelectedRow.wfByText (OpenSpec.ofChange Rows.eventSelectedSpec)=true:=by kernel_rfl
theorem funcNamed:prog.funcNamed Rows.eventSelectedRow.func=some 8:=by kernel_rfl
theorem iV:prog.inits.idxOf? 8=none:=by kernel_rfl
theorem Zn:([78,80,81].all fun u=> !prog.wantsStandIn u)=true:=by kernel_rfl
theorem SO:Tryz.f8.isInstance Tryz.pinned.checked.prog Rows.eventSelectedRow.origin Rows.eventSelectedRow.targs:=of_decide_eq_true (by kernel_rfl)
theorem V6:Tryz.f8.isWrapper Tryz.pinned.checked.prog Rows.eventSelectedRow.wrapper Rows.eventSelectedRow.mainSum:=by unfold Func.isWrapper;first|(rw[if_pos (by decide+kernel)];kernel_rfl)|(rw[if_neg (by decide+kernel)];exact⟨rfl,rfl⟩)
theorem closed:joinedFacts prog 8 Tryz.f8 (OpenSpec.ofChange Rows.eventSelectedSpec).bare Rows.eventSelectedRow=true:=by
 unfold joinedFacts;refine Bp (Bp (Bp (Bp (Bp (Bp (Bp (Bp (Bp (Bp (Bp (Bp (Bp (Bp (Bp (Bp (Bp (Bp (Bp (Bp (Bp (Bp (Bp (Bp (Bp (Bp (Bp (Bp (Bp (Bp (Bp
  (by kernel_rfl) R7.laidOut) R7.Zf) (by kernel_rfl)) (by kernel_rfl)) (by kernel_rfl)) (by kernel_rfl)) (by kernel_rfl)) (by kernel_rfl)) inPlace) unfollowed) recurses) named) (by kernel_rfl)) (by kernel_rfl)) (by kernel_rfl)) (by kernel_rfl)) (by kernel_rfl)) (by kernel_rfl)) (by kernel_rfl)) (by kernel_rfl)) (by kernel_rfl)) (by kernel_rfl)) (by kernel_rfl)) R7.heard) R7.enter) R7.lU) R7.fE) (by kernel_rfl)) (by kernel_rfl)) (by kernel_rfl)) (by kernel_rfl)
end EventSelected
end Go.Proofs.YtnbinppdjnlhpaaGreatDoor
