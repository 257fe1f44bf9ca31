import Derived.Test.YtipkapecgjpnlaaGreatDoorX12
/- A part of a proof; no law is stated here. -/
namespace Go.Proofs.YtipkapecgjpnlaaGreatDoor
open Go Go.RowKit Go.ChangeShapes Go.WideShapes Go.ChangeAt Go.Det Go.Pe
open Go.Proofs.Tryz (prog)
namespace HandicapRounds
theorem inPlace:(Rows.handicapRoundsRow.inPlace==prog.inPlace 6)=true:=by kernel_rfl
theorem unfollowed:(Rows.handicapRoundsRow.unfollowed==prog.unfollowed 6)=true:=by kernel_rfl
theorem recurses:(Rows.handicapRoundsRow.recurses==prog.recurses 6)=true:=by kernel_rfl
theorem named:(Rows.handicapRoundsRow.named==prog.varsNamed 6)=true:=by kernel_rfl
theorem goes:false=Rows.handicapRoundsRow.goesBy prog:=by kernel_rfl
theorem Nb:Rows.handicapRoundsRow.wfByText (OpenSpec.ofChange Rows.handicapRoundsSpec)=true:=by kernel_rfl
theorem funcNamed:prog.funcNamed Rows.handicapRoundsRow.func=some 6:=by kernel_rfl
theorem M9:prog.inits.idxOf? 6=none:=by kernel_rfl
theorem Kk:([53,56,3].all fun u=> !prog.wantsStandIn u)=true:=by kernel_rfl
theorem FB:Tryz.f6.isInstance Tryz.pinned.checked.prog Rows.handicapRoundsRow.origin Rows.handicapRoundsRow.targs:=w6 ac
theorem Gu:Tryz.f6.isWrapper Tryz.pinned.checked.prog Rows.handicapRoundsRow.wrapper Rows.handicapRoundsRow.mainSum:=by unfold Func.isWrapper;first|(rw[wb<|by decide+kernel];kernel_rfl)|(rw[wa<|by decide+kernel];exact⟨rfl,rfl⟩)
theorem closed:joinedFacts prog 6 Tryz.f6 (OpenSpec.ofChange Rows.handicapRoundsSpec).bare Rows.handicapRoundsRow=true:=by
 unfold joinedFacts;refine Ah (Ah (Ah (Ah (Ah (Ah (Ah (Ah (Ah (Ah (Ah (Ah (Ah (Ah (Ah (Ah (Ah (Ah (Ah (Ah (Ah (Ah (Ah (Ah (Ah (Ah (Ah (Ah (Ah (Ah (Ah
  ac R7.laidOut) R7.Oo) ac) ac) ac) ac) ac) ac) inPlace) unfollowed) recurses) named) ac) ac) ac) ac) ac) ac) ac) ac) ac) ac) ac) R7.heard) R7.enter) R7.UL) R7.QJ) ac) ac) ac) ac
end HandicapRounds
end Go.Proofs.YtipkapecgjpnlaaGreatDoor
