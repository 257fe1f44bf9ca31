import Derived.Test.YtlohiljbghionaaGreatDoorX21
import Derived.Test.YtlohiljbghionaaGreatDoorX22
import Derived.Test.YtlohiljbghionaaGreatDoorX23
/- RatingCourses returns true for every input, and each argument reads afterwards as it read before; the listed tables of the library are laid. Made by program out of texts by AI agents. -/
/- RatingCourses: the row, the card. -/
namespace Go.Proofs.YtlohiljbghionaaGreatDoor
open Go Go.RowKit Go.ChangeShapes Go.WideShapes Go.ChangeAt Go.Det Go.Pe
open Go.Proofs.Tryz (prog)
namespace RatingCourses
set_option maxRecDepth 100000 in
theorem lifted(os:Os)(a:os.Started)(H:Type)(enc:TypeId×Value->H)(F:Stop.Interp):
  ReturnsInHanded {} Tryz.checked os 3 .any ((OpenSpec.ofChange Rows.ratingCoursesSpec).preRow enc prog Tryz.f3 Rows.ratingCoursesRow.domain false Rows.ratingCoursesRow.laid) (((OpenSpec.ofChange Rows.ratingCoursesSpec).at F).post enc prog Tryz.f3 false true false false):=by
 obtain⟨d,i⟩:=reads os enc;refine returnsInHanded_of_row (C:=Tryz.checked) (s:=OpenSpec.ofChange Rows.ratingCoursesSpec) xC a oC Tryz.func3
  (RT (enc:=enc) (C:=Tryz.checked) (W7 os) JZ (World.laidAll_os _ _ _) (World.shaped_of_ZipB (a1 os)<|a2 os) (a3 os)
   (OpenSpec.preRow_of_cond 8 i (by kernel_rfl) (fun k f=>by cases f) (a4 os enc)<|ZF os _)) ?_
 intro W base args ds h b c hW _ _ e g j _;exact Zd H enc W base args ds h b c hW (uZ g j) e
theorem said:Rows.RatingCoursesSaid:=
 OpenClaim.holds_of_cond 3 Tryz.f3 rfl rfl rfl rfl rfl rfl rfl ⟨rfl,rfl,rfl,rfl,rfl⟩ rfl rfl rfl rfl rfl funcNamed Tryz.func3 closed U6 XY
  (fun os a H enc _ F=>by rw[OpenClaim.pre_eq_preRow];exact lifted os a H enc F)
theorem plain(f:FuncId)(fn:Func)(d:Tryz.pinned.checked.prog.funcNamed Rows.ratingCoursesRow.func=some f)(a:Tryz.pinned.checked.prog.funcs[f]?=some fn):
  true=Tryz.pinned.checked.prog.looks []/\∀(j:Nat) t,fn.params[j]?=some t->Tryz.pinned.checked.prog.wantsStandIn t=false:=by
 obtain rfl:f=3:=Option.some.inj (funcNamed.symm.trans d)|>.symm
 obtain rfl:fn=Tryz.f3:=(Option.some.inj<|Tryz.func3.symm.trans a).symm;refine⟨R7.looks,fun j t b=>?_⟩;rw[Tryz.params3]at b;have c:t∈[26,31]:=by simpa using Array.mem_of_getElem? b
 exact(show prog.wantsStandIn t=false by simpa using List.all_eq_true.1 kZ t c)
theorem uN:Rows.RatingCoursesCardSaid:=
 Claim7.holds_tied_plain_at .later [] _ _ _ _ said (fun _ h=>by cases h) pM (fun _ h=>by cases h) ratingCourses_row_tie rfl ⟨rfl,rfl⟩ R7.mainIs rfl plain goes
end RatingCourses
theorem ratingCourses_holds:Rows.RatingCoursesCardSaid:=RatingCourses.uN
#print axioms ratingCourses_holds
end Go.Proofs.YtlohiljbghionaaGreatDoor
