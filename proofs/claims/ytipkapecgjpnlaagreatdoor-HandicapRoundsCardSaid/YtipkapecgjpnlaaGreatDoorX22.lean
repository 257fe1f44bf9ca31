import Derived.Test.YtipkapecgjpnlaaGreatDoorX19
import Derived.Test.YtipkapecgjpnlaaGreatDoorX20
import Derived.Test.YtipkapecgjpnlaaGreatDoorX21
/- HandicapRounds returns true for every input, and each argument reads afterwards as it read before; the listed tables of the library are laid. Made by program out of texts by AI agents. -/
/- HandicapRounds: the row, the card. -/
namespace Go.Proofs.YtipkapecgjpnlaaGreatDoor
open Go Go.RowKit Go.ChangeShapes Go.WideShapes Go.ChangeAt Go.Det Go.Pe
open Go.Proofs.Tryz (prog)
namespace HandicapRounds
set_option maxRecDepth 100000 in
theorem lifted(os:Os)(a:os.Started)(H:Type)(enc:TypeId×Value->H)(F:Stop.Interp):
  ReturnsInHanded {} Tryz.checked os 6 .any ((OpenSpec.ofChange Rows.handicapRoundsSpec).preRow enc prog Tryz.f6 Rows.handicapRoundsRow.domain false Rows.handicapRoundsRow.laid) (((OpenSpec.ofChange Rows.handicapRoundsSpec).at F).post enc prog Tryz.f6 false true false false):=by
 obtain⟨d,i⟩:=reads os enc;refine returnsInHanded_of_row (C:=Tryz.checked) (s:=OpenSpec.ofChange Rows.handicapRoundsSpec) Xl a M9 Tryz.func6
  (He (enc:=enc) (C:=Tryz.checked) (W7 os) B0 (World.laidAll_os _ _ _) (World.shaped_of_ZipB (a1 os)<|a2 os) (a3 os)
   (OpenSpec.preRow_of_cond 8 i ac (fun k h=>by cases h) (a4 os enc)<|Mg os _)) ?_
 intro W base args ds f b c hW _ _ e g j _;exact HT H enc W base args ds f b c hW (UJ g j) e
theorem said:Rows.HandicapRoundsSaid:=
 OpenClaim.holds_of_cond 6 Tryz.f6 rfl rfl rfl rfl rfl rfl rfl ⟨rfl,rfl,rfl,rfl,rfl⟩ rfl rfl rfl rfl rfl funcNamed Tryz.func6 closed FB Gu
  (fun os a H enc _ F=>by rw[OpenClaim.pre_eq_preRow];exact lifted os a H enc F)
theorem plain(f:FuncId)(fn:Func)(c:Tryz.pinned.checked.prog.funcNamed Rows.handicapRoundsRow.func=some f)(a:Tryz.pinned.checked.prog.funcs[f]?=some fn):
  true=Tryz.pinned.checked.prog.looks []/\∀(j:Nat) t,fn.params[j]?=some t->Tryz.pinned.checked.prog.wantsStandIn t=false:=by
 obtain rfl:f=6:=Option.some.inj (funcNamed.symm.trans c)|>.symm
 obtain rfl:fn=Tryz.f6:=(Option.some.inj<|Tryz.func6.symm.trans a).symm;refine⟨R7.looks,fun j t b=>?_⟩;rw[Tryz.params6]at b;have d:t∈[53,56,3]:=by simpa using Array.mem_of_getElem? b
 exact(show prog.wantsStandIn t=false by simpa using List.all_eq_true.1 Kk t d)
theorem Rq:Rows.HandicapRoundsCardSaid:=
 Claim7.holds_tied_plain_at .later [] _ _ _ _ said (fun _ h=>by cases h) Nb (fun _ h=>by cases h) handicapRounds_row_tie rfl ⟨rfl,rfl⟩ R7.mainIs rfl plain goes
end HandicapRounds
theorem handicapRounds_holds:Rows.HandicapRoundsCardSaid:=HandicapRounds.Rq
#print axioms handicapRounds_holds
end Go.Proofs.YtipkapecgjpnlaaGreatDoor
