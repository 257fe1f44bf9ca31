import Derived.Test.YtipkapecgjpnlaaGreatDoorX24
import Derived.Test.YtipkapecgjpnlaaGreatDoorX25
import Derived.Test.YtipkapecgjpnlaaGreatDoorX26
/- HandicapMerges returns true for every input, and each argument reads afterwards as it read before; the listed tables of the library are laid. Made by program out of texts by AI agents. -/
/- HandicapMerges: the row, the card. -/
namespace Go.Proofs.YtipkapecgjpnlaaGreatDoor
open Go Go.RowKit Go.ChangeShapes Go.WideShapes Go.ChangeAt Go.Det Go.Pe
open Go.Proofs.Tryz (prog)
namespace HandicapMerges
set_option maxRecDepth 100000 in
theorem lifted(os:Os)(a:os.Started)(H:Type)(enc:TypeId×Value->H)(F:Stop.Interp):
  ReturnsInHanded {} Tryz.checked os 4 .any ((OpenSpec.ofChange Rows.handicapMergesSpec).preRow enc prog Tryz.f4 Rows.handicapMergesRow.domain false Rows.handicapMergesRow.laid) (((OpenSpec.ofChange Rows.handicapMergesSpec).at F).post enc prog Tryz.f4 false true false false):=by
 obtain⟨d,j⟩:=reads os enc;refine returnsInHanded_of_row (C:=Tryz.checked) (s:=OpenSpec.ofChange Rows.handicapMergesSpec) eO a Vp Tryz.func4
  (MG (enc:=enc) (C:=Tryz.checked) (W7 os) Ea (World.laidAll_os _ _ _) (World.shaped_of_ZipB (a1 os)<|a2 os) (a3 os)
   (OpenSpec.preRow_of_cond 8 j ag (fun k i=>by cases i) (a4 os enc)<|UX os _)) ?_
 intro W base args ds h b c hW _ _ e g f _;exact PZ H enc W base args ds h b c hW (tD g f) e
theorem said:Rows.HandicapMergesSaid:=
 OpenClaim.holds_of_cond 4 Tryz.f4 rfl rfl rfl rfl rfl rfl rfl ⟨rfl,rfl,rfl,rfl,rfl⟩ rfl rfl rfl rfl rfl funcNamed Tryz.func4 closed Kc LK
  (fun os a H enc _ F=>by rw[OpenClaim.pre_eq_preRow];exact lifted os a H enc F)
theorem plain(f:FuncId)(fn:Func)(c:Tryz.pinned.checked.prog.funcNamed Rows.handicapMergesRow.func=some f)(a:Tryz.pinned.checked.prog.funcs[f]?=some fn):
  true=Tryz.pinned.checked.prog.looks []/\∀(j:Nat) t,fn.params[j]?=some t->Tryz.pinned.checked.prog.wantsStandIn t=false:=by
 obtain rfl:f=4:=Option.some.inj (funcNamed.symm.trans c)|>.symm
 obtain rfl:fn=Tryz.f4:=(Option.some.inj<|Tryz.func4.symm.trans a).symm;refine⟨R7.looks,fun j t b=>?_⟩;rw[Tryz.params4]at b;have d:t∈[22,22,25]:=by simpa using Array.mem_of_getElem? b
 exact(show prog.wantsStandIn t=false by simpa using List.all_eq_true.1 Ru t d)
theorem kY:Rows.HandicapMergesCardSaid:=
 Claim7.holds_tied_plain_at .later [] _ _ _ _ said (fun _ h=>by cases h) WK (fun _ h=>by cases h) handicapMerges_row_tie rfl ⟨rfl,rfl⟩ R7.mainIs rfl plain goes
end HandicapMerges
theorem handicapMerges_holds:Rows.HandicapMergesCardSaid:=HandicapMerges.kY
#print axioms handicapMerges_holds
end Go.Proofs.YtipkapecgjpnlaaGreatDoor
