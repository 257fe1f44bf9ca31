import Derived.Test.YtmcnicakonagdaaGreatDoorX20
import Derived.Test.YtmcnicakonagdaaGreatDoorX21
import Derived.Test.YtmcnicakonagdaaGreatDoorX22
/- RatingLines returns true for every input, and each argument reads afterwards as it read before; the listed tables of the library are laid. Made by program out of texts by AI agents. -/
/- RatingLines: the row, the card. -/
namespace Go.Proofs.YtmcnicakonagdaaGreatDoor
open Go Go.RowKit Go.ChangeShapes Go.WideShapes Go.ChangeAt Go.Det Go.Pe
open Go.Proofs.Tryz (prog)
namespace RatingLines
set_option maxRecDepth 100000 in
theorem lifted(os:Os)(started:os.Started)(H:Type)(enc:TypeId×Value->H)(F:Stop.Interp):
  ReturnsInHanded {} Tryz.checked os 3 .any ((OpenSpec.ofChange Rows.ratingLinesSpec).preRow enc prog Tryz.f3 Rows.ratingLinesRow.domain false Rows.ratingLinesRow.laid) (((OpenSpec.ofChange Rows.ratingLinesSpec).at F).post enc prog Tryz.f3 false true false false):=by
 obtain⟨places,hx⟩:=reads os enc;refine returnsInHanded_of_row (C:=Tryz.checked) (s:=OpenSpec.ofChange Rows.ratingLinesSpec) AaA started uS Tryz.func3
  (Tu (enc:=enc) (C:=Tryz.checked) (W7 os) Kb (World.laidAll_os _ _ _) (World.shaped_of_ZipB (a1 os) (a2 os)) (a3 os)
   (OpenSpec.preRow_of_cond 8 hx (by kernel_rfl) (fun k hk=>by cases hk) (a4 os enc) (jK os _))) ?_
 intro W base args ds gs before hval hW _ _ _ hl hs _;exact cK H enc W base args ds gs before hval hW (zX hl hs)
theorem said:Rows.RatingLinesSaid:=
 OpenClaim.holds_of_cond 3 Tryz.f3 rfl rfl rfl rfl rfl rfl rfl ⟨rfl,rfl,rfl,rfl,rfl⟩ rfl rfl rfl rfl rfl funcNamed Tryz.func3 closed VY ZW
  (fun os started H enc _ F=>by rw[OpenClaim.pre_eq_preRow];exact lifted os started H enc F)
theorem plain(f:FuncId)(fn:Func)(hf:Tryz.pinned.checked.prog.funcNamed Rows.ratingLinesRow.func=some f)(hfn:Tryz.pinned.checked.prog.funcs[f]?=some fn):
  true=Tryz.pinned.checked.prog.looks []/\∀(j:Nat) t,fn.params[j]?=some t->Tryz.pinned.checked.prog.wantsStandIn t=false:=by
 obtain rfl:f=3:=Option.some.inj (funcNamed.symm.trans hf)|>.symm
 obtain rfl:fn=Tryz.f3:=(Option.some.inj (Tryz.func3.symm.trans hfn)).symm;refine⟨R7.looks,fun j t ht=>?_⟩;rw[Tryz.params3]at ht;have hm:t∈[22,23,23]:=by simpa using Array.mem_of_getElem? ht
 exact(show prog.wantsStandIn t=false by simpa using List.all_eq_true.1 pB t hm)
theorem zZ:Rows.RatingLinesCardSaid:=
 Claim7.holds_tied_plain_at .later [] _ _ _ _ said (fun _ h=>by cases h) wR (fun _ h=>by cases h) ratingLines_row_tie rfl ⟨rfl,rfl⟩ R7.mainIs rfl plain goes
end RatingLines
theorem ratingLines_holds:Rows.RatingLinesCardSaid:=RatingLines.zZ
#print axioms ratingLines_holds
end Go.Proofs.YtmcnicakonagdaaGreatDoor
