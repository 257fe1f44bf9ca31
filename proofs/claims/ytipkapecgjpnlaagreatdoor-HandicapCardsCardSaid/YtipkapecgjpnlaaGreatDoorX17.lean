import Derived.Test.YtipkapecgjpnlaaGreatDoorX14
import Derived.Test.YtipkapecgjpnlaaGreatDoorX15
import Derived.Test.YtipkapecgjpnlaaGreatDoorX16
/- HandicapCards returns true for every input, and each argument reads afterwards as it read before; the listed tables of the library are laid. Made by program out of texts by AI agents. -/
/- HandicapCards: the row, the card. -/
namespace Go.Proofs.YtipkapecgjpnlaaGreatDoor
open Go Go.RowKit Go.ChangeShapes Go.WideShapes Go.ChangeAt Go.Det Go.Pe
open Go.Proofs.Tryz (prog)
namespace HandicapCards
set_option maxRecDepth 100000 in
theorem lifted(os:Os)(a:os.Started)(H:Type)(enc:TypeId×Value->H)(F:Stop.Interp):
  ReturnsInHanded {} Tryz.checked os 5 .any ((OpenSpec.ofChange Rows.handicapCardsSpec).preRow enc prog Tryz.f5 Rows.handicapCardsRow.domain false Rows.handicapCardsRow.laid) (((OpenSpec.ofChange Rows.handicapCardsSpec).at F).post enc prog Tryz.f5 false true false false):=by
 obtain⟨d,i⟩:=reads os enc;refine returnsInHanded_of_row (C:=Tryz.checked) (s:=OpenSpec.ofChange Rows.handicapCardsSpec) Xl a M9 Tryz.func5
  (He (enc:=enc) (C:=Tryz.checked) (W7 os) B0 (World.laidAll_os _ _ _) (World.shaped_of_ZipB (a1 os)<|a2 os) (a3 os)
   (OpenSpec.preRow_of_cond 8 i ac (fun k h=>by cases h) (a4 os enc)<|Mg os _)) ?_
 intro W base args ds f b c hW _ _ e g j _;exact HT H enc W base args ds f b c hW (UJ g j) e
theorem said:Rows.HandicapCardsSaid:=
 OpenClaim.holds_of_cond 5 Tryz.f5 rfl rfl rfl rfl rfl rfl rfl ⟨rfl,rfl,rfl,rfl,rfl⟩ rfl rfl rfl rfl rfl funcNamed Tryz.func5 closed FB Gu
  (fun os a H enc _ F=>by rw[OpenClaim.pre_eq_preRow];exact lifted os a H enc F)
theorem plain(f:FuncId)(fn:Func)(c:Tryz.pinned.checked.prog.funcNamed Rows.handicapCardsRow.func=some f)(a:Tryz.pinned.checked.prog.funcs[f]?=some fn):
  true=Tryz.pinned.checked.prog.looks []/\∀(j:Nat) t,fn.params[j]?=some t->Tryz.pinned.checked.prog.wantsStandIn t=false:=by
 obtain rfl:f=5:=Option.some.inj (funcNamed.symm.trans c)|>.symm
 obtain rfl:fn=Tryz.f5:=(Option.some.inj<|Tryz.func5.symm.trans a).symm;refine⟨R7.looks,fun j t b=>?_⟩;rw[Tryz.params5]at b;have d:t∈[53,56,3]:=by simpa using Array.mem_of_getElem? b
 exact(show prog.wantsStandIn t=false by simpa using List.all_eq_true.1 Kk t d)
theorem Rq:Rows.HandicapCardsCardSaid:=
 Claim7.holds_tied_plain_at .later [] _ _ _ _ said (fun _ h=>by cases h) Nb (fun _ h=>by cases h) handicapCards_row_tie rfl ⟨rfl,rfl⟩ R7.mainIs rfl plain goes
end HandicapCards
theorem handicapCards_holds:Rows.HandicapCardsCardSaid:=HandicapCards.Rq
#print axioms handicapCards_holds
end Go.Proofs.YtipkapecgjpnlaaGreatDoor
