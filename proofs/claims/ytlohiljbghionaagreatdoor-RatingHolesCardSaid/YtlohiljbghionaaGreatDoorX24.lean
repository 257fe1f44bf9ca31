import Derived.Test.YtlohiljbghionaaGreatDoorX21
import Derived.Test.YtlohiljbghionaaGreatDoorX22
import Derived.Test.YtlohiljbghionaaGreatDoorX23
/- RatingHoles returns true for every input, and each argument reads afterwards as it read before; the listed tables of the library are laid. Made by program out of texts by AI agents. -/
/- RatingHoles: the row, the card. -/
namespace Go.Proofs.YtlohiljbghionaaGreatDoor
open Go Go.RowKit Go.ChangeShapes Go.WideShapes Go.ChangeAt Go.Det Go.Pe
open Go.Proofs.Tryz (prog)
namespace RatingHoles
set_option maxRecDepth 100000 in
theorem lifted(os:Os)(a:os.Started)(H:Type)(enc:TypeId×Value->H)(F:Stop.Interp):
  ReturnsInHanded {} Tryz.checked os 5 .any ((OpenSpec.ofChange Rows.ratingHolesSpec).preRow enc prog Tryz.f5 Rows.ratingHolesRow.domain false Rows.ratingHolesRow.laid) (((OpenSpec.ofChange Rows.ratingHolesSpec).at F).post enc prog Tryz.f5 false true false false):=by
 obtain⟨d,g⟩:=reads os enc;refine returnsInHanded_of_row (C:=Tryz.checked) (s:=OpenSpec.ofChange Rows.ratingHolesSpec) Afq a AaG Tryz.func5
  (Vy (enc:=enc) (C:=Tryz.checked) (W7 os) Lq (World.laidAll_os _ _ _) (World.shaped_of_ZipB (a1 os)<|a2 os) (a3 os)
   (OpenSpec.preRow_of_cond 8 g ag (fun k j=>by cases j) (a4 os enc)<|qI os _)) ?_
 intro W base args ds f b c hW _ _ e i h _;exact lT H enc W base args ds f b c hW (Ac3 i h) e
theorem said:Rows.RatingHolesSaid:=
 OpenClaim.holds_of_cond 5 Tryz.f5 rfl rfl rfl rfl rfl rfl rfl ⟨rfl,rfl,rfl,rfl,rfl⟩ rfl rfl rfl rfl rfl funcNamed Tryz.func5 closed Xa dY
  (fun os a H enc _ F=>by rw[OpenClaim.pre_eq_preRow];exact lifted os a H enc F)
theorem plain(f:FuncId)(fn:Func)(d:Tryz.pinned.checked.prog.funcNamed Rows.ratingHolesRow.func=some f)(a:Tryz.pinned.checked.prog.funcs[f]?=some fn):
  true=Tryz.pinned.checked.prog.looks []/\∀(j:Nat) t,fn.params[j]?=some t->Tryz.pinned.checked.prog.wantsStandIn t=false:=by
 obtain rfl:f=5:=Option.some.inj (funcNamed.symm.trans d)|>.symm
 obtain rfl:fn=Tryz.f5:=(Option.some.inj<|Tryz.func5.symm.trans a).symm;refine⟨R7.looks,fun j t b=>?_⟩;rw[Tryz.params5]at b;have c:t∈[26,52]:=by simpa using Array.mem_of_getElem? b
 exact(show prog.wantsStandIn t=false by simpa using List.all_eq_true.1 rG t c)
theorem Adi:Rows.RatingHolesCardSaid:=
 Claim7.holds_tied_plain_at .later [] _ _ _ _ said (fun _ h=>by cases h) Acb (fun _ h=>by cases h) ratingHoles_row_tie rfl ⟨rfl,rfl⟩ R7.mainIs rfl plain goes
end RatingHoles
theorem ratingHoles_holds:Rows.RatingHolesCardSaid:=RatingHoles.Adi
#print axioms ratingHoles_holds
end Go.Proofs.YtlohiljbghionaaGreatDoor
