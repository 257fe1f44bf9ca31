import Derived.Test.YtjbmodoofdpgcabGreatDoorX12
/- A part of a proof; no law is stated here. -/
namespace Go.Proofs.YtjbmodoofdpgcabGreatDoor
open Go Go.RowKit Go.ChangeShapes Go.WideShapes Go.ChangeAt Go.Det Go.Pe
open Go.Proofs.Tryz (prog)
namespace EventQualifies
theorem inPlace:(Rows.eventQualifiesRow.inPlace==prog.inPlace 3)=true:=by kernel_rfl
theorem unfollowed:(Rows.eventQualifiesRow.unfollowed==prog.unfollowed 3)=true:=by kernel_rfl
theorem recurses:(Rows.eventQualifiesRow.recurses==prog.recurses 3)=true:=by kernel_rfl
theorem named:(Rows.eventQualifiesRow.named==prog.varsNamed 3)=true:=by kernel_rfl
theorem goes:false=Rows.eventQualifiesRow.goesBy prog:=by kernel_rfl
theorem S9:Rows.eventQualifiesRow.wfByText (OpenSpec.ofChange Rows.eventQualifiesSpec)=true:=by kernel_rfl
theorem funcNamed:prog.funcNamed Rows.eventQualifiesRow.func=some 3:=by kernel_rfl
theorem Sk:prog.inits.idxOf? 3=none:=by kernel_rfl
theorem Ra:([22,3].all fun u=> !prog.wantsStandIn u)=true:=by kernel_rfl
theorem LW:Tryz.f3.isInstance Tryz.pinned.checked.prog Rows.eventQualifiesRow.origin Rows.eventQualifiesRow.targs:=w6 ac
theorem NX:Tryz.f3.isWrapper Tryz.pinned.checked.prog Rows.eventQualifiesRow.wrapper Rows.eventQualifiesRow.mainSum:=by unfold Func.isWrapper;first|(rw[wa<|by decide+kernel];kernel_rfl)|(rw[w9<|by decide+kernel];exact⟨rfl,rfl⟩)
theorem closed:joinedFacts prog 3 Tryz.f3 (OpenSpec.ofChange Rows.eventQualifiesSpec).bare Rows.eventQualifiesRow=true:=by
 unfold joinedFacts;refine Aw (Aw (Aw (Aw (Aw (Aw (Aw (Aw (Aw (Aw (Aw (Aw (Aw (Aw (Aw (Aw (Aw (Aw (Aw (Aw (Aw (Aw (Aw (Aw (Aw (Aw (Aw (Aw (Aw (Aw (Aw
  ac R7.laidOut) R7.Qz) ac) ac) ac) ac) ac) ac) inPlace) unfollowed) recurses) named) ac) ac) ac) ac) ac) ac) ac) ac) ac) ac) ac) R7.heard) R7.enter) R7.TW) R7.SF) ac) ac) ac) ac
end EventQualifies
end Go.Proofs.YtjbmodoofdpgcabGreatDoor
