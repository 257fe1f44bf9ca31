import Derived.Test.YtjbmodoofdpgcaaGreatDoorX18
import Derived.Test.YtjbmodoofdpgcaaGreatDoorX19
import Derived.Test.YtjbmodoofdpgcaaGreatDoorX20
/- HandicapCourses returns true for every input, and each argument reads afterwards as it read before; the listed tables of the library are laid. Made by program out of texts by AI agents. -/
/- HandicapCourses: the row, the card. -/
namespace Go.Proofs.YtjbmodoofdpgcaaGreatDoor
open Go Go.RowKit Go.ChangeShapes Go.WideShapes Go.ChangeAt Go.Det Go.Pe
open Go.Proofs.Tryz (prog)
namespace HandicapCourses
set_option maxRecDepth 100000 in
theorem lifted(os:Os)(a:os.Started)(H:Type)(enc:TypeId×Value->H)(F:Stop.Interp):
  ReturnsInHanded {} Tryz.checked os 3 .any ((OpenSpec.ofChange Rows.handicapCoursesSpec).preRow enc prog Tryz.f3 Rows.handicapCoursesRow.domain false Rows.handicapCoursesRow.laid) (((OpenSpec.ofChange Rows.handicapCoursesSpec).at F).post enc prog Tryz.f3 false true false false):=by
 obtain⟨d,h⟩:=reads os enc;refine returnsInHanded_of_row (C:=Tryz.checked) (s:=OpenSpec.ofChange Rows.handicapCoursesSpec) Aaf a tS Tryz.func3
  (SM (enc:=enc) (C:=Tryz.checked) (W7 os) Kg (World.laidAll_os _ _ _) (World.shaped_of_ZipB (a1 os)<|a2 os) (a3 os)
   (OpenSpec.preRow_of_cond 8 h ag (fun k i=>by cases i) (a4 os enc)<|eW os _)) ?_
 intro W base args ds j b c hW _ _ e g f _;exact ZJ H enc W base args ds j b c hW (wB g f) e
theorem said:Rows.HandicapCoursesSaid:=
 OpenClaim.holds_of_cond 3 Tryz.f3 rfl rfl rfl rfl rfl rfl rfl ⟨rfl,rfl,rfl,rfl,rfl⟩ rfl rfl rfl rfl rfl funcNamed Tryz.func3 closed Vh Ya
  (fun os a H enc _ F=>by rw[OpenClaim.pre_eq_preRow];exact lifted os a H enc F)
theorem plain(f:FuncId)(fn:Func)(d:Tryz.pinned.checked.prog.funcNamed Rows.handicapCoursesRow.func=some f)(a:Tryz.pinned.checked.prog.funcs[f]?=some fn):
  true=Tryz.pinned.checked.prog.looks []/\∀(j:Nat) t,fn.params[j]?=some t->Tryz.pinned.checked.prog.wantsStandIn t=false:=by
 obtain rfl:f=3:=Option.some.inj (funcNamed.symm.trans d)|>.symm
 obtain rfl:fn=Tryz.f3:=(Option.some.inj<|Tryz.func3.symm.trans a).symm;refine⟨R7.looks,fun j t b=>?_⟩;rw[Tryz.params3]at b;have c:t∈[22,24,25]:=by simpa using Array.mem_of_getElem? b
 exact(show prog.wantsStandIn t=false by simpa using List.all_eq_true.1 gB t c)
theorem wJ:Rows.HandicapCoursesCardSaid:=
 Claim7.holds_tied_plain_at .later [] _ _ _ _ said (fun _ h=>by cases h) rQ (fun _ h=>by cases h) handicapCourses_row_tie rfl ⟨rfl,rfl⟩ R7.mainIs rfl plain goes
end HandicapCourses
theorem handicapCourses_holds:Rows.HandicapCoursesCardSaid:=HandicapCourses.wJ
#print axioms handicapCourses_holds
end Go.Proofs.YtjbmodoofdpgcaaGreatDoor
