import Derived.Test.YtnbinppdjnlhpaaGreatDoorX17
/- A part of a proof (no law is stated here). Made by program out of texts by AI agents. -/
namespace Go.Proofs.YtnbinppdjnlhpaaGreatDoor
open Go Go.RowKit Go.ChangeShapes Go.WideShapes Go.ChangeAt Go.Det Go.Pe
open Go.Proofs.Tryz (prog)
namespace EventAccepts
theorem inPlace:(Rows.eventAcceptsRow.inPlace==prog.inPlace 11)=true:=by kernel_rfl
theorem unfollowed:(Rows.eventAcceptsRow.unfollowed==prog.unfollowed 11)=true:=by kernel_rfl
theorem recurses:(Rows.eventAcceptsRow.recurses==prog.recurses 11)=true:=by kernel_rfl
theorem named:(Rows.eventAcceptsRow.named==prog.varsNamed 11)=true:=by kernel_rfl
theorem goes:false=Rows.eventAcceptsRow.goesBy prog:=by kernel_rfl
theorem eR:Rows.eventAcceptsRow.wfByText (OpenSpec.ofChange Rows.eventAcceptsSpec)=true:=by kernel_rfl
theorem funcNamed:prog.funcNamed Rows.eventAcceptsRow.func=some 11:=by kernel_rfl
theorem cW:prog.inits.idxOf? 11=none:=by kernel_rfl
theorem ZZ:([78,80].all fun u=> !prog.wantsStandIn u)=true:=by kernel_rfl
theorem S2:Tryz.f11.isInstance Tryz.pinned.checked.prog Rows.eventAcceptsRow.origin Rows.eventAcceptsRow.targs:=of_decide_eq_true (by kernel_rfl)
theorem Vy:Tryz.f11.isWrapper Tryz.pinned.checked.prog Rows.eventAcceptsRow.wrapper Rows.eventAcceptsRow.mainSum:=by unfold Func.isWrapper;first|(rw[if_pos (by decide+kernel)];kernel_rfl)|(rw[if_neg (by decide+kernel)];exact⟨rfl,rfl⟩)
theorem closed:joinedFacts prog 11 Tryz.f11 (OpenSpec.ofChange Rows.eventAcceptsSpec).bare Rows.eventAcceptsRow=true:=by
 unfold joinedFacts;refine Bn (Bn (Bn (Bn (Bn (Bn (Bn (Bn (Bn (Bn (Bn (Bn (Bn (Bn (Bn (Bn (Bn (Bn (Bn (Bn (Bn (Bn (Bn (Bn (Bn (Bn (Bn (Bn (Bn (Bn (Bn
  (by kernel_rfl) R7.laidOut) R7.ZM) (by kernel_rfl)) (by kernel_rfl)) (by kernel_rfl)) (by kernel_rfl)) (by kernel_rfl)) (by kernel_rfl)) inPlace) unfollowed) recurses) named) (by kernel_rfl)) (by kernel_rfl)) (by kernel_rfl)) (by kernel_rfl)) (by kernel_rfl)) (by kernel_rfl)) (by kernel_rfl)) (by kernel_rfl)) (by kernel_rfl)) (by kernel_rfl)) (by kernel_rfl)) R7.heard) R7.enter) R7.iB) R7.dC) (by kernel_rfl)) (by kernel_rfl)) (by kernel_rfl)) (by kernel_rfl)
end EventAccepts
end Go.Proofs.YtnbinppdjnlhpaaGreatDoor
