import Derived.Test.YtjbmodoofdpgcaaGreatDoorX16
/- A part of a proof; no law is stated here. -/
namespace Go.Proofs.YtjbmodoofdpgcaaGreatDoor
open Go Go.RowKit Go.ChangeShapes Go.WideShapes Go.ChangeAt Go.Det Go.Pe
open Go.Proofs.Tryz (prog)
namespace HandicapCourses
theorem inPlace:(Rows.handicapCoursesRow.inPlace==prog.inPlace 3)=true:=by kernel_rfl
theorem unfollowed:(Rows.handicapCoursesRow.unfollowed==prog.unfollowed 3)=true:=by kernel_rfl
theorem recurses:(Rows.handicapCoursesRow.recurses==prog.recurses 3)=true:=by kernel_rfl
theorem named:(Rows.handicapCoursesRow.named==prog.varsNamed 3)=true:=by kernel_rfl
theorem goes:false=Rows.handicapCoursesRow.goesBy prog:=by kernel_rfl
theorem rQ:Rows.handicapCoursesRow.wfByText (OpenSpec.ofChange Rows.handicapCoursesSpec)=true:=by kernel_rfl
theorem funcNamed:prog.funcNamed Rows.handicapCoursesRow.func=some 3:=by kernel_rfl
theorem tS:prog.inits.idxOf? 3=none:=by kernel_rfl
theorem gB:([22,24,25].all fun u=> !prog.wantsStandIn u)=true:=by kernel_rfl
theorem Vh:Tryz.f3.isInstance Tryz.pinned.checked.prog Rows.handicapCoursesRow.origin Rows.handicapCoursesRow.targs:=w6 ag
theorem Ya:Tryz.f3.isWrapper Tryz.pinned.checked.prog Rows.handicapCoursesRow.wrapper Rows.handicapCoursesRow.mainSum:=by unfold Func.isWrapper;first|(rw[wd<|by decide+kernel];kernel_rfl)|(rw[wc<|by decide+kernel];exact⟨rfl,rfl⟩)
theorem closed:joinedFacts prog 3 Tryz.f3 (OpenSpec.ofChange Rows.handicapCoursesSpec).bare Rows.handicapCoursesRow=true:=by
 unfold joinedFacts;refine Bw (Bw (Bw (Bw (Bw (Bw (Bw (Bw (Bw (Bw (Bw (Bw (Bw (Bw (Bw (Bw (Bw (Bw (Bw (Bw (Bw (Bw (Bw (Bw (Bw (Bw (Bw (Bw (Bw (Bw (Bw
  ag R7.laidOut) R7.kH) ag) ag) ag) ag) ag) ag) inPlace) unfollowed) recurses) named) ag) ag) ag) ag) ag) ag) ag) ag) ag) ag) ag) R7.heard) R7.enter) R7.yM) R7.sY) ag) ag) ag) ag
end HandicapCourses
end Go.Proofs.YtjbmodoofdpgcaaGreatDoor
