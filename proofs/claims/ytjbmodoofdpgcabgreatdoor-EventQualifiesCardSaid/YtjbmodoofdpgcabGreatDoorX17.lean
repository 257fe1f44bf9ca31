import Derived.Test.YtjbmodoofdpgcabGreatDoorX14
import Derived.Test.YtjbmodoofdpgcabGreatDoorX15
import Derived.Test.YtjbmodoofdpgcabGreatDoorX16
/- EventQualifies returns true for every input, and each argument reads afterwards as it read before; the listed tables of the library are laid. Made by program out of texts by AI agents. -/
/- EventQualifies: the row, the card. -/
namespace Go.Proofs.YtjbmodoofdpgcabGreatDoor
open Go Go.RowKit Go.ChangeShapes Go.WideShapes Go.ChangeAt Go.Det Go.Pe
open Go.Proofs.Tryz (prog)
namespace EventQualifies
set_option maxRecDepth 100000 in
theorem lifted(os:Os)(a:os.Started)(H:Type)(enc:TypeId×Value->H)(F:Stop.Interp):
  ReturnsInHanded {} Tryz.checked os 3 .any ((OpenSpec.ofChange Rows.eventQualifiesSpec).preRow enc prog Tryz.f3 Rows.eventQualifiesRow.domain false Rows.eventQualifiesRow.laid) (((OpenSpec.ofChange Rows.eventQualifiesSpec).at F).post enc prog Tryz.f3 false true false false):=by
 obtain⟨d,g⟩:=reads os enc;refine returnsInHanded_of_row (C:=Tryz.checked) (s:=OpenSpec.ofChange Rows.eventQualifiesSpec) Uu a Sk Tryz.func3
  (Kv (enc:=enc) (C:=Tryz.checked) (W7 os) EH (World.laidAll_os _ _ _) (World.shaped_of_ZipB (a1 os)<|a2 os) (a3 os)
   (OpenSpec.preRow_of_cond 8 g ac (fun k j=>by cases j) (a4 os enc)<|Qb os _)) ?_
 intro W base args ds f b c hW _ _ e i h _;exact PZ H enc W base args ds f b c hW (Ub i h) e
theorem said:Rows.EventQualifiesSaid:=
 OpenClaim.holds_of_cond 3 Tryz.f3 rfl rfl rfl rfl rfl rfl rfl ⟨rfl,rfl,rfl,rfl,rfl⟩ rfl rfl rfl rfl rfl funcNamed Tryz.func3 closed LW NX
  (fun os a H enc _ F=>by rw[OpenClaim.pre_eq_preRow];exact lifted os a H enc F)
theorem plain(f:FuncId)(fn:Func)(d:Tryz.pinned.checked.prog.funcNamed Rows.eventQualifiesRow.func=some f)(a:Tryz.pinned.checked.prog.funcs[f]?=some fn):
  true=Tryz.pinned.checked.prog.looks []/\∀(j:Nat) t,fn.params[j]?=some t->Tryz.pinned.checked.prog.wantsStandIn t=false:=by
 obtain rfl:f=3:=Option.some.inj (funcNamed.symm.trans d)|>.symm
 obtain rfl:fn=Tryz.f3:=(Option.some.inj<|Tryz.func3.symm.trans a).symm;refine⟨R7.looks,fun j t b=>?_⟩;rw[Tryz.params3]at b;have c:t∈[22,3]:=by simpa using Array.mem_of_getElem? b
 exact(show prog.wantsStandIn t=false by simpa using List.all_eq_true.1 Ra t c)
theorem TK:Rows.EventQualifiesCardSaid:=
 Claim7.holds_tied_plain_at .later [] _ _ _ _ said (fun _ h=>by cases h) S9 (fun _ h=>by cases h) eventQualifies_row_tie rfl ⟨rfl,rfl⟩ R7.mainIs rfl plain goes
end EventQualifies
theorem eventQualifies_holds:Rows.EventQualifiesCardSaid:=EventQualifies.TK
#print axioms eventQualifies_holds
end Go.Proofs.YtjbmodoofdpgcabGreatDoor
