import Derived.Test.YtbmofcgiokkikaaGreatDoorX26
import Derived.Test.YtbmofcgiokkikaaGreatDoorX27
import Derived.Test.YtbmofcgiokkikaaGreatDoorX28
/- RatingAdds returns true for every input, and each argument reads afterwards as it read before; the listed tables of the library are laid. Made by program out of texts by AI agents. -/
/- RatingAdds: the row, the card. -/
namespace Go.Proofs.YtbmofcgiokkikaaGreatDoor
open Go Go.RowKit Go.ChangeShapes Go.WideShapes Go.ChangeAt Go.Det Go.Pe
open Go.Proofs.Tryz (prog)
namespace RatingAdds
set_option maxRecDepth 100000 in
theorem lifted(os:Os)(a:os.Started)(H:Type)(enc:TypeId×Value->H)(F:Stop.Interp):
  ReturnsInHanded {} Tryz.checked os 5 .any ((OpenSpec.ofChange Rows.ratingAddsSpec).preRow enc prog Tryz.f5 Rows.ratingAddsRow.domain false Rows.ratingAddsRow.laid) (((OpenSpec.ofChange Rows.ratingAddsSpec).at F).post enc prog Tryz.f5 false true false false):=by
 obtain⟨d,g⟩:=reads os enc;refine returnsInHanded_of_row (C:=Tryz.checked) (s:=OpenSpec.ofChange Rows.ratingAddsSpec) Ahg a bD Tryz.func5
  (O6 (enc:=enc) (C:=Tryz.checked) (W7 os) E3 (World.laidAll_os _ _ _) (World.shaped_of_ZipB (a1 os)<|a2 os) (a3 os)
   (OpenSpec.preRow_of_cond 8 g ag (fun k f=>by cases f) (a4 os enc)<|Xl os _)) ?_
 intro W base args ds j b c hW _ _ e i h _;exact Q2 H enc W base args ds j b c hW (Adj i h) e
theorem said:Rows.RatingAddsSaid:=
 OpenClaim.holds_of_cond 5 Tryz.f5 rfl rfl rfl rfl rfl rfl rfl ⟨rfl,rfl,rfl,rfl,rfl⟩ rfl rfl rfl rfl rfl funcNamed Tryz.func5 closed Ma Ox
  (fun os a H enc _ F=>by rw[OpenClaim.pre_eq_preRow];exact lifted os a H enc F)
theorem plain(f:FuncId)(fn:Func)(c:Tryz.pinned.checked.prog.funcNamed Rows.ratingAddsRow.func=some f)(a:Tryz.pinned.checked.prog.funcs[f]?=some fn):
  true=Tryz.pinned.checked.prog.looks []/\∀(j:Nat) t,fn.params[j]?=some t->Tryz.pinned.checked.prog.wantsStandIn t=false:=by
 obtain rfl:f=5:=Option.some.inj (funcNamed.symm.trans c)|>.symm
 obtain rfl:fn=Tryz.f5:=(Option.some.inj<|Tryz.func5.symm.trans a).symm;refine⟨R7.looks,fun j t b=>?_⟩;rw[Tryz.params5]at b;have d:t∈[26,3,51]:=by simpa using Array.mem_of_getElem? b
 exact(show prog.wantsStandIn t=false by simpa using List.all_eq_true.1 Vb t d)
theorem vT:Rows.RatingAddsCardSaid:=
 Claim7.holds_tied_plain_at .later [] _ _ _ _ said (fun _ h=>by cases h) bK (fun _ h=>by cases h) ratingAdds_row_tie rfl ⟨rfl,rfl⟩ R7.mainIs rfl plain goes
end RatingAdds
theorem ratingAdds_holds:Rows.RatingAddsCardSaid:=RatingAdds.vT
#print axioms ratingAdds_holds
end Go.Proofs.YtbmofcgiokkikaaGreatDoor
