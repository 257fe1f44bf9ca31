import Derived.Test.YtlohiljbghionaaGreatDoorX19
/- A part of a proof (no law is stated here). Made by program out of texts by AI agents. -/
namespace Go.Proofs.YtlohiljbghionaaGreatDoor
open Go Go.RowKit Go.ChangeShapes Go.WideShapes Go.ChangeAt Go.Det Go.Pe
open Go.Proofs.Tryz (prog)
namespace RatingCourses
theorem inPlace:(Rows.ratingCoursesRow.inPlace==prog.inPlace 3)=true:=by kernel_rfl
theorem unfollowed:(Rows.ratingCoursesRow.unfollowed==prog.unfollowed 3)=true:=by kernel_rfl
theorem recurses:(Rows.ratingCoursesRow.recurses==prog.recurses 3)=true:=by kernel_rfl
theorem named:(Rows.ratingCoursesRow.named==prog.varsNamed 3)=true:=by kernel_rfl
theorem goes:false=Rows.ratingCoursesRow.goesBy prog:=by kernel_rfl
theorem pM:Rows.ratingCoursesRow.wfByText (OpenSpec.ofChange Rows.ratingCoursesSpec)=true:=by kernel_rfl
theorem funcNamed:prog.funcNamed Rows.ratingCoursesRow.func=some 3:=by kernel_rfl
theorem oC:prog.inits.idxOf? 3=none:=by kernel_rfl
theorem kZ:([26,31].all fun u=> !prog.wantsStandIn u)=true:=by kernel_rfl
theorem U6:Tryz.f3.isInstance Tryz.pinned.checked.prog Rows.ratingCoursesRow.origin Rows.ratingCoursesRow.targs:=w6 (by kernel_rfl)
theorem XY:Tryz.f3.isWrapper Tryz.pinned.checked.prog Rows.ratingCoursesRow.wrapper Rows.ratingCoursesRow.mainSum:=by unfold Func.isWrapper;first|(rw[wd<|by decide+kernel];kernel_rfl)|(rw[wc<|by decide+kernel];exact⟨rfl,rfl⟩)
theorem closed:joinedFacts prog 3 Tryz.f3 (OpenSpec.ofChange Rows.ratingCoursesSpec).bare Rows.ratingCoursesRow=true:=by
 unfold joinedFacts;refine Bx (Bx (Bx (Bx (Bx (Bx (Bx (Bx (Bx (Bx (Bx (Bx (Bx (Bx (Bx (Bx (Bx (Bx (Bx (Bx (Bx (Bx (Bx (Bx (Bx (Bx (Bx (Bx (Bx (Bx (Bx
  (by kernel_rfl) R7.laidOut) R7.jM)<|by kernel_rfl)<|by kernel_rfl)<|by kernel_rfl)<|by kernel_rfl)<|by kernel_rfl)<|by kernel_rfl) inPlace) unfollowed) recurses) named)<|by kernel_rfl)<|by kernel_rfl)<|by kernel_rfl)<|by kernel_rfl)<|by kernel_rfl)<|by kernel_rfl)<|by kernel_rfl)<|by kernel_rfl)<|by kernel_rfl)<|by kernel_rfl)<|by kernel_rfl) R7.heard) R7.enter) R7.tL) R7.pD)<|by kernel_rfl)<|by kernel_rfl)<|by kernel_rfl) (by kernel_rfl)
end RatingCourses
end Go.Proofs.YtlohiljbghionaaGreatDoor
