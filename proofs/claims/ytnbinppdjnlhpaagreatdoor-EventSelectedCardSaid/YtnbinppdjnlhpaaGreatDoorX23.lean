import Derived.Test.YtnbinppdjnlhpaaGreatDoorX20
import Derived.Test.YtnbinppdjnlhpaaGreatDoorX21
import Derived.Test.YtnbinppdjnlhpaaGreatDoorX22
/- EventSelected returns true for every input, and each argument reads afterwards as it read before; the listed tables of the library are laid. Made by program out of texts by AI agents. -/
/- EventSelected: the row, the card. -/
namespace Go.Proofs.YtnbinppdjnlhpaaGreatDoor
open Go Go.RowKit Go.ChangeShapes Go.WideShapes Go.ChangeAt Go.Det Go.Pe
open Go.Proofs.Tryz (prog)
namespace EventSelected
set_option maxRecDepth 100000 in
theorem lifted(os:Os)(started:os.Started)(H:Type)(enc:TypeId×Value→H)(F:Stop.Interp):
  ReturnsInHanded {} Tryz.checked os 8 .any ((OpenSpec.ofChange Rows.eventSelectedSpec).preRow enc prog Tryz.f8 Rows.eventSelectedRow.domain false Rows.eventSelectedRow.laid) (((OpenSpec.ofChange Rows.eventSelectedSpec).at F).post enc prog Tryz.f8 false true false false):=by
 obtain⟨places,hx⟩:=reads os enc;refine returnsInHanded_of_row (C:=Tryz.checked) (s:=OpenSpec.ofChange Rows.eventSelectedSpec) nH started iV Tryz.func8
  (QW (enc:=enc) (C:=Tryz.checked) (W7 os) JH (World.laidAll_os _ _ _) (World.shaped_of_ZipB (a1 os) (a2 os)) (a3 os)
   (OpenSpec.preRow_of_cond 8 hx (by kernel_rfl) (fun k hk=>by cases hk) (a4 os enc) (XP os _))) ?_
 intro W base args ds gs before hval hW _ _ _ _ _ _;exact WO H enc W base args ds gs before hval hW
theorem said:Rows.EventSelectedSaid:=
 OpenClaim.holds_of_cond 8 Tryz.f8 rfl rfl rfl rfl rfl rfl rfl ⟨rfl,rfl,rfl,rfl,rfl⟩ rfl rfl rfl rfl rfl funcNamed Tryz.func8 closed SO V6
  (fun os started H enc _ F=>by rw[OpenClaim.pre_eq_preRow];exact lifted os started H enc F)
theorem plain(f:FuncId)(fn:Func)(hf:Tryz.pinned.checked.prog.funcNamed Rows.eventSelectedRow.func=some f)(hfn:Tryz.pinned.checked.prog.funcs[f]?=some fn):
  true=Tryz.pinned.checked.prog.looks []∧∀(j:Nat) t,fn.params[j]?=some t→Tryz.pinned.checked.prog.wantsStandIn t=false:=by
 obtain rfl:f=8:=Option.some.inj (funcNamed.symm.trans hf)|>.symm
 obtain rfl:fn=Tryz.f8:=(Option.some.inj (Tryz.func8.symm.trans hfn)).symm;refine⟨R7.looks,fun j t ht=>?_⟩;rw[Tryz.params8]at ht;have hm:t∈[78,80,81]:=by simpa using Array.mem_of_getElem? ht
 exact(show prog.wantsStandIn t=false by simpa using List.all_eq_true.1 Zn t hm)
theorem lM:Rows.EventSelectedCardSaid:=
 Claim7.holds_tied_plain_at .later [] _ _ _ _ said (fun _ h=>by cases h) fY (fun _ h=>by cases h) eventSelected_row_tie rfl ⟨rfl,rfl⟩ R7.mainIs rfl plain goes
end EventSelected
theorem eventSelected_holds:Rows.EventSelectedCardSaid:=EventSelected.lM
#print axioms eventSelected_holds
end Go.Proofs.YtnbinppdjnlhpaaGreatDoor
