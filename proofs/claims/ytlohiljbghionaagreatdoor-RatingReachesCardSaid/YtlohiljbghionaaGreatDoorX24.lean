import Derived.Test.YtlohiljbghionaaGreatDoorX21
import Derived.Test.YtlohiljbghionaaGreatDoorX22
import Derived.Test.YtlohiljbghionaaGreatDoorX23
/- RatingReaches returns true for every input, and each argument reads afterwards as it read before; the listed tables of the library are laid. Made by program out of texts by AI agents. -/
/- RatingReaches: the row, the card. -/
namespace Go.Proofs.YtlohiljbghionaaGreatDoor
open Go Go.RowKit Go.ChangeShapes Go.WideShapes Go.ChangeAt Go.Det Go.Pe
open Go.Proofs.Tryz (prog)
namespace RatingReaches
set_option maxRecDepth 100000 in
theorem lifted(os:Os)(a:os.Started)(H:Type)(enc:TypeId×Value->H)(F:Stop.Interp):
  ReturnsInHanded {} Tryz.checked os 6 .any ((OpenSpec.ofChange Rows.ratingReachesSpec).preRow enc prog Tryz.f6 Rows.ratingReachesRow.domain false Rows.ratingReachesRow.laid) (((OpenSpec.ofChange Rows.ratingReachesSpec).at F).post enc prog Tryz.f6 false true false false):=by
 obtain⟨d,h⟩:=reads os enc;refine returnsInHanded_of_row (C:=Tryz.checked) (s:=OpenSpec.ofChange Rows.ratingReachesSpec) Aee a AbM Tryz.func6
  (Uz (enc:=enc) (C:=Tryz.checked) (W7 os) LH (World.laidAll_os _ _ _) (World.shaped_of_ZipB (a1 os)<|a2 os) (a3 os)
   (OpenSpec.preRow_of_cond 8 h ag (fun k g=>by cases g) (a4 os enc)<|oJ os _)) ?_
 intro W base args ds j b c hW _ _ e i f _;exact lP H enc W base args ds j b c hW (AcX i f) e
theorem said:Rows.RatingReachesSaid:=
 OpenClaim.holds_of_cond 6 Tryz.f6 rfl rfl rfl rfl rfl rfl rfl ⟨rfl,rfl,rfl,rfl,rfl⟩ rfl rfl rfl rfl rfl funcNamed Tryz.func6 closed XD cS
  (fun os a H enc _ F=>by rw[OpenClaim.pre_eq_preRow];exact lifted os a H enc F)
theorem plain(f:FuncId)(fn:Func)(c:Tryz.pinned.checked.prog.funcNamed Rows.ratingReachesRow.func=some f)(a:Tryz.pinned.checked.prog.funcs[f]?=some fn):
  true=Tryz.pinned.checked.prog.looks []/\∀(j:Nat) t,fn.params[j]?=some t->Tryz.pinned.checked.prog.wantsStandIn t=false:=by
 obtain rfl:f=6:=Option.some.inj (funcNamed.symm.trans c)|>.symm
 obtain rfl:fn=Tryz.f6:=(Option.some.inj<|Tryz.func6.symm.trans a).symm;refine⟨R7.looks,fun j t b=>?_⟩;rw[Tryz.params6]at b;have d:t∈[26,52]:=by simpa using Array.mem_of_getElem? b
 exact(show prog.wantsStandIn t=false by simpa using List.all_eq_true.1 rM t d)
theorem Adn:Rows.RatingReachesCardSaid:=
 Claim7.holds_tied_plain_at .later [] _ _ _ _ said (fun _ h=>by cases h) AaV (fun _ h=>by cases h) ratingReaches_row_tie rfl ⟨rfl,rfl⟩ R7.mainIs rfl plain goes
end RatingReaches
theorem ratingReaches_holds:Rows.RatingReachesCardSaid:=RatingReaches.Adn
#print axioms ratingReaches_holds
end Go.Proofs.YtlohiljbghionaaGreatDoor
