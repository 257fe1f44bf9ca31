import Derived.Test.YtbmofcgiokkikaaGreatDoorX22
import Derived.Test.YtbmofcgiokkikaaGreatDoorX23
import Derived.Test.YtbmofcgiokkikaaGreatDoorX24
/- RatingDrifts returns true for every input, and each argument reads afterwards as it read before; the listed tables of the library are laid. Made by program out of texts by AI agents. -/
/- RatingDrifts: the row, the card. -/
namespace Go.Proofs.YtbmofcgiokkikaaGreatDoor
open Go Go.RowKit Go.ChangeShapes Go.WideShapes Go.ChangeAt Go.Det Go.Pe
open Go.Proofs.Tryz (prog)
namespace RatingDrifts
set_option maxRecDepth 100000 in
theorem lifted(os:Os)(a:os.Started)(H:Type)(enc:TypeId×Value->H)(F:Stop.Interp):
  ReturnsInHanded {} Tryz.checked os 6 .any ((OpenSpec.ofChange Rows.ratingDriftsSpec).preRow enc prog Tryz.f6 Rows.ratingDriftsRow.domain false Rows.ratingDriftsRow.laid) (((OpenSpec.ofChange Rows.ratingDriftsSpec).at F).post enc prog Tryz.f6 false true false false):=by
 obtain⟨d,j⟩:=reads os enc;refine returnsInHanded_of_row (C:=Tryz.checked) (s:=OpenSpec.ofChange Rows.ratingDriftsSpec) Ah7 a Aep Tryz.func6
  (VC (enc:=enc) (C:=Tryz.checked) (W7 os) Ma (World.laidAll_os _ _ _) (World.shaped_of_ZipB (a1 os)<|a2 os) (a3 os)
   (OpenSpec.preRow_of_cond 8 j ag (fun k g=>by cases g) (a4 os enc)<|nC os _)) ?_
 intro W base args ds f b c hW _ _ e h i _;exact lX H enc W base args ds f b c hW (Agw h i) e
theorem said:Rows.RatingDriftsSaid:=
 OpenClaim.holds_of_cond 6 Tryz.f6 rfl rfl rfl rfl rfl rfl rfl ⟨rfl,rfl,rfl,rfl,rfl⟩ rfl rfl rfl rfl rfl funcNamed Tryz.func6 closed Yy gC
  (fun os a H enc _ F=>by rw[OpenClaim.pre_eq_preRow];exact lifted os a H enc F)
theorem plain(f:FuncId)(fn:Func)(d:Tryz.pinned.checked.prog.funcNamed Rows.ratingDriftsRow.func=some f)(a:Tryz.pinned.checked.prog.funcs[f]?=some fn):
  true=Tryz.pinned.checked.prog.looks []/\∀(j:Nat) t,fn.params[j]?=some t->Tryz.pinned.checked.prog.wantsStandIn t=false:=by
 obtain rfl:f=6:=Option.some.inj (funcNamed.symm.trans d)|>.symm
 obtain rfl:fn=Tryz.f6:=(Option.some.inj<|Tryz.func6.symm.trans a).symm;refine⟨R7.looks,fun j t b=>?_⟩;rw[Tryz.params6]at b;have c:t∈[26,28,54]:=by simpa using Array.mem_of_getElem? b
 exact(show prog.wantsStandIn t=false by simpa using List.all_eq_true.1 xO t c)
theorem Ahy:Rows.RatingDriftsCardSaid:=
 Claim7.holds_tied_plain_at .later [] _ _ _ _ said (fun _ h=>by cases h) Ad8 (fun _ h=>by cases h) ratingDrifts_row_tie rfl ⟨rfl,rfl⟩ R7.mainIs rfl plain goes
end RatingDrifts
theorem ratingDrifts_holds:Rows.RatingDriftsCardSaid:=RatingDrifts.Ahy
#print axioms ratingDrifts_holds
end Go.Proofs.YtbmofcgiokkikaaGreatDoor
