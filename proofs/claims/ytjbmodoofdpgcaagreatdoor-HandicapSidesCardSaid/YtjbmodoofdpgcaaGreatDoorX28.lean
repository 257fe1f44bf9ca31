import Derived.Test.YtjbmodoofdpgcaaGreatDoorX25
import Derived.Test.YtjbmodoofdpgcaaGreatDoorX26
import Derived.Test.YtjbmodoofdpgcaaGreatDoorX27
/- HandicapSides returns true for every input, and each argument reads afterwards as it read before; the listed tables of the library are laid. Made by program out of texts by AI agents. -/
/- HandicapSides: the row, the card. -/
namespace Go.Proofs.YtjbmodoofdpgcaaGreatDoor
open Go Go.RowKit Go.ChangeShapes Go.WideShapes Go.ChangeAt Go.Det Go.Pe
open Go.Proofs.Tryz (prog)
namespace HandicapSides
set_option maxRecDepth 100000 in
theorem lifted(os:Os)(a:os.Started)(H:Type)(enc:TypeId×Value->H)(F:Stop.Interp):
  ReturnsInHanded {} Tryz.checked os 4 .any ((OpenSpec.ofChange Rows.handicapSidesSpec).preRow enc prog Tryz.f4 Rows.handicapSidesRow.domain false Rows.handicapSidesRow.laid) (((OpenSpec.ofChange Rows.handicapSidesSpec).at F).post enc prog Tryz.f4 false true false false):=by
 obtain⟨d,f⟩:=reads os enc;refine returnsInHanded_of_row (C:=Tryz.checked) (s:=OpenSpec.ofChange Rows.handicapSidesSpec) AaB a Vj Tryz.func4
  (MS (enc:=enc) (C:=Tryz.checked) (W7 os) D0 (World.laidAll_os _ _ _) (World.shaped_of_ZipB (a1 os)<|a2 os) (a3 os)
   (OpenSpec.preRow_of_cond 8 f ag (fun k h=>by cases h) (a4 os enc)<|Tw os _)) ?_
 intro W base args ds g b c hW _ _ e i j _;exact Pz H enc W base args ds g b c hW (sN i j) e
theorem said:Rows.HandicapSidesSaid:=
 OpenClaim.holds_of_cond 4 Tryz.f4 rfl rfl rfl rfl rfl rfl rfl ⟨rfl,rfl,rfl,rfl,rfl⟩ rfl rfl rfl rfl rfl funcNamed Tryz.func4 closed Kh Mp
  (fun os a H enc _ F=>by rw[OpenClaim.pre_eq_preRow];exact lifted os a H enc F)
theorem plain(f:FuncId)(fn:Func)(c:Tryz.pinned.checked.prog.funcNamed Rows.handicapSidesRow.func=some f)(a:Tryz.pinned.checked.prog.funcs[f]?=some fn):
  true=Tryz.pinned.checked.prog.looks []/\∀(j:Nat) t,fn.params[j]?=some t->Tryz.pinned.checked.prog.wantsStandIn t=false:=by
 obtain rfl:f=4:=Option.some.inj (funcNamed.symm.trans c)|>.symm
 obtain rfl:fn=Tryz.f4:=(Option.some.inj<|Tryz.func4.symm.trans a).symm;refine⟨R7.looks,fun j t b=>?_⟩;rw[Tryz.params4]at b;have d:t∈[38,38,39]:=by simpa using Array.mem_of_getElem? b
 exact(show prog.wantsStandIn t=false by simpa using List.all_eq_true.1 RE t d)
theorem dD:Rows.HandicapSidesCardSaid:=
 Claim7.holds_tied_plain_at .later [] _ _ _ _ said (fun _ h=>by cases h) V7 (fun _ h=>by cases h) handicapSides_row_tie rfl ⟨rfl,rfl⟩ R7.mainIs rfl plain goes
end HandicapSides
theorem handicapSides_holds:Rows.HandicapSidesCardSaid:=HandicapSides.dD
#print axioms handicapSides_holds
end Go.Proofs.YtjbmodoofdpgcaaGreatDoor
