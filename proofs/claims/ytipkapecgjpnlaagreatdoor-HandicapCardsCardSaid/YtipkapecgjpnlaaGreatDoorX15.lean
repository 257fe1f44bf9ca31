import Derived.Test.YtipkapecgjpnlaaGreatDoorX12
/- A part of a proof; no law is stated here. -/
namespace Go.Proofs.YtipkapecgjpnlaaGreatDoor
open Go Go.RowKit Go.ChangeShapes Go.WideShapes Go.ChangeAt Go.Det Go.Pe
open Go.Proofs.Tryz (prog)
namespace HandicapCards
theorem inPlace:(Rows.handicapCardsRow.inPlace==prog.inPlace 5)=true:=by kernel_rfl
theorem unfollowed:(Rows.handicapCardsRow.unfollowed==prog.unfollowed 5)=true:=by kernel_rfl
theorem recurses:(Rows.handicapCardsRow.recurses==prog.recurses 5)=true:=by kernel_rfl
theorem named:(Rows.handicapCardsRow.named==prog.varsNamed 5)=true:=by kernel_rfl
theorem goes:false=Rows.handicapCardsRow.goesBy prog:=by kernel_rfl
theorem Nb:Rows.handicapCardsRow.wfByText (OpenSpec.ofChange Rows.handicapCardsSpec)=true:=by kernel_rfl
theorem funcNamed:prog.funcNamed Rows.handicapCardsRow.func=some 5:=by kernel_rfl
theorem M9:prog.inits.idxOf? 5=none:=by kernel_rfl
theorem Kk:([53,56,3].all fun u=> !prog.wantsStandIn u)=true:=by kernel_rfl
theorem FB:Tryz.f5.isInstance Tryz.pinned.checked.prog Rows.handicapCardsRow.origin Rows.handicapCardsRow.targs:=w6 ac
theorem Gu:Tryz.f5.isWrapper Tryz.pinned.checked.prog Rows.handicapCardsRow.wrapper Rows.handicapCardsRow.mainSum:=by unfold Func.isWrapper;first|(rw[wb<|by decide+kernel];kernel_rfl)|(rw[wa<|by decide+kernel];exact⟨rfl,rfl⟩)
theorem closed:joinedFacts prog 5 Tryz.f5 (OpenSpec.ofChange Rows.handicapCardsSpec).bare Rows.handicapCardsRow=true:=by
 unfold joinedFacts;refine Ah (Ah (Ah (Ah (Ah (Ah (Ah (Ah (Ah (Ah (Ah (Ah (Ah (Ah (Ah (Ah (Ah (Ah (Ah (Ah (Ah (Ah (Ah (Ah (Ah (Ah (Ah (Ah (Ah (Ah (Ah
  ac R7.laidOut) R7.Oo) ac) ac) ac) ac) ac) ac) inPlace) unfollowed) recurses) named) ac) ac) ac) ac) ac) ac) ac) ac) ac) ac) ac) R7.heard) R7.enter) R7.UL) R7.QJ) ac) ac) ac) ac
end HandicapCards
end Go.Proofs.YtipkapecgjpnlaaGreatDoor
