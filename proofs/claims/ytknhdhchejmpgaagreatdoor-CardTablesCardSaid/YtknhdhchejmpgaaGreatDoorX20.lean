import Derived.Test.YtknhdhchejmpgaaGreatDoorX17
/- A part of a proof (no law is stated here). Made by program out of texts by AI agents. -/
namespace Go.Proofs.YtknhdhchejmpgaaGreatDoor
open Go Go.RowKit Go.ChangeShapes Go.WideShapes Go.ChangeAt Go.Det Go.Pe
open Go.Proofs.Tryz (prog)
namespace CardTables
theorem inPlace:(Rows.cardTablesRow.inPlace==prog.inPlace 8)=true:=by kernel_rfl
theorem unfollowed:(Rows.cardTablesRow.unfollowed==prog.unfollowed 8)=true:=by kernel_rfl
theorem recurses:(Rows.cardTablesRow.recurses==prog.recurses 8)=true:=by kernel_rfl
theorem named:(Rows.cardTablesRow.named==prog.varsNamed 8)=true:=by kernel_rfl
theorem goes:false=Rows.cardTablesRow.goesBy prog:=by kernel_rfl
theorem qK:Rows.cardTablesRow.wfByText (OpenSpec.ofChange Rows.cardTablesSpec)=true:=by kernel_rfl
theorem funcNamed:prog.funcNamed Rows.cardTablesRow.func=some 8:=by kernel_rfl
theorem oE:prog.inits.idxOf? 8=none:=by kernel_rfl
theorem lG:([47,22].all fun u=> !prog.wantsStandIn u)=true:=by kernel_rfl
theorem Ua:Tryz.f8.isInstance Tryz.pinned.checked.prog Rows.cardTablesRow.origin Rows.cardTablesRow.targs:=of_decide_eq_true (by kernel_rfl)
theorem X8:Tryz.f8.isWrapper Tryz.pinned.checked.prog Rows.cardTablesRow.wrapper Rows.cardTablesRow.mainSum:=by unfold Func.isWrapper;first|(rw[if_pos (by decide+kernel)];kernel_rfl)|(rw[if_neg (by decide+kernel)];exact⟨rfl,rfl⟩)
theorem closed:joinedFacts prog 8 Tryz.f8 (OpenSpec.ofChange Rows.cardTablesSpec).bare Rows.cardTablesRow=true:=by
 unfold joinedFacts;refine Bz (Bz (Bz (Bz (Bz (Bz (Bz (Bz (Bz (Bz (Bz (Bz (Bz (Bz (Bz (Bz (Bz (Bz (Bz (Bz (Bz (Bz (Bz (Bz (Bz (Bz (Bz (Bz (Bz (Bz (Bz
  (by kernel_rfl) R7.laidOut) R7.jR) (by kernel_rfl)) (by kernel_rfl)) (by kernel_rfl)) (by kernel_rfl)) (by kernel_rfl)) (by kernel_rfl)) inPlace) unfollowed) recurses) named) (by kernel_rfl)) (by kernel_rfl)) (by kernel_rfl)) (by kernel_rfl)) (by kernel_rfl)) (by kernel_rfl)) (by kernel_rfl)) (by kernel_rfl)) (by kernel_rfl)) (by kernel_rfl)) (by kernel_rfl)) R7.heard) R7.enter) R7.rZ) R7.rM) (by kernel_rfl)) (by kernel_rfl)) (by kernel_rfl)) (by kernel_rfl)
end CardTables
end Go.Proofs.YtknhdhchejmpgaaGreatDoor
