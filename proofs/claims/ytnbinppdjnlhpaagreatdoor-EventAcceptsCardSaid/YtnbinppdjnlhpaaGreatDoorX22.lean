import Derived.Test.YtnbinppdjnlhpaaGreatDoorX19
import Derived.Test.YtnbinppdjnlhpaaGreatDoorX20
import Derived.Test.YtnbinppdjnlhpaaGreatDoorX21
/- EventAccepts returns true for every input, and each argument reads afterwards as it read before; the listed tables of the library are laid. Made by program out of texts by AI agents. -/
/- EventAccepts: the row, the card. -/
namespace Go.Proofs.YtnbinppdjnlhpaaGreatDoor
open Go Go.RowKit Go.ChangeShapes Go.WideShapes Go.ChangeAt Go.Det Go.Pe
open Go.Proofs.Tryz (prog)
namespace EventAccepts
set_option maxRecDepth 100000 in
theorem lifted(os:Os)(started:os.Started)(H:Type)(enc:TypeId×Value→H)(F:Stop.Interp):
  ReturnsInHanded {} Tryz.checked os 11 .any ((OpenSpec.ofChange Rows.eventAcceptsSpec).preRow enc prog Tryz.f11 Rows.eventAcceptsRow.domain false Rows.eventAcceptsRow.laid) (((OpenSpec.ofChange Rows.eventAcceptsSpec).at F).post enc prog Tryz.f11 false true false false):=by
 obtain⟨places,hx⟩:=reads os enc;refine returnsInHanded_of_row (C:=Tryz.checked) (s:=OpenSpec.ofChange Rows.eventAcceptsSpec) jZ started cW Tryz.func11
  (QO (enc:=enc) (C:=Tryz.checked) (W7 os) IG (World.laidAll_os _ _ _) (World.shaped_of_ZipB (a1 os) (a2 os)) (a3 os)
   (OpenSpec.preRow_of_cond 8 hx (by kernel_rfl) (fun k hk=>by cases hk) (a4 os enc) (VS os _))) ?_
 intro W base args ds gs before hval hW _ _ _ _ _ _;exact VP H enc W base args ds gs before hval hW
theorem said:Rows.EventAcceptsSaid:=
 OpenClaim.holds_of_cond 11 Tryz.f11 rfl rfl rfl rfl rfl rfl rfl ⟨rfl,rfl,rfl,rfl,rfl⟩ rfl rfl rfl rfl rfl funcNamed Tryz.func11 closed S2 Vy
  (fun os started H enc _ F=>by rw[OpenClaim.pre_eq_preRow];exact lifted os started H enc F)
theorem plain(f:FuncId)(fn:Func)(hf:Tryz.pinned.checked.prog.funcNamed Rows.eventAcceptsRow.func=some f)(hfn:Tryz.pinned.checked.prog.funcs[f]?=some fn):
  true=Tryz.pinned.checked.prog.looks []∧∀(j:Nat) t,fn.params[j]?=some t→Tryz.pinned.checked.prog.wantsStandIn t=false:=by
 obtain rfl:f=11:=Option.some.inj (funcNamed.symm.trans hf)|>.symm
 obtain rfl:fn=Tryz.f11:=(Option.some.inj (Tryz.func11.symm.trans hfn)).symm;refine⟨R7.looks,fun j t ht=>?_⟩;rw[Tryz.params11]at ht;have hm:t∈[78,80]:=by simpa using Array.mem_of_getElem? ht
 exact(show prog.wantsStandIn t=false by simpa using List.all_eq_true.1 ZZ t hm)
theorem iA:Rows.EventAcceptsCardSaid:=
 Claim7.holds_tied_plain_at .later [] _ _ _ _ said (fun _ h=>by cases h) eR (fun _ h=>by cases h) eventAccepts_row_tie rfl ⟨rfl,rfl⟩ R7.mainIs rfl plain goes
end EventAccepts
theorem eventAccepts_holds:Rows.EventAcceptsCardSaid:=EventAccepts.iA
#print axioms eventAccepts_holds
end Go.Proofs.YtnbinppdjnlhpaaGreatDoor
