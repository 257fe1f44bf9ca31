import Derived.Test.YtlohiljbghionaaGreatDoorX21
import Derived.Test.YtlohiljbghionaaGreatDoorX22
import Derived.Test.YtlohiljbghionaaGreatDoorX23
/- RatingLengths returns true for every input, and each argument reads afterwards as it read before; the listed tables of the library are laid. Made by program out of texts by AI agents. -/
/- RatingLengths: the row, the card. -/
namespace Go.Proofs.YtlohiljbghionaaGreatDoor
open Go Go.RowKit Go.ChangeShapes Go.WideShapes Go.ChangeAt Go.Det Go.Pe
open Go.Proofs.Tryz (prog)
namespace RatingLengths
set_option maxRecDepth 100000 in
theorem lifted(os:Os)(a:os.Started)(H:Type)(enc:TypeId×Value->H)(F:Stop.Interp):
  ReturnsInHanded {} Tryz.checked os 4 .any ((OpenSpec.ofChange Rows.ratingLengthsSpec).preRow enc prog Tryz.f4 Rows.ratingLengthsRow.domain false Rows.ratingLengthsRow.laid) (((OpenSpec.ofChange Rows.ratingLengthsSpec).at F).post enc prog Tryz.f4 false true false false):=by
 obtain⟨d,i⟩:=reads os enc;refine returnsInHanded_of_row (C:=Tryz.checked) (s:=OpenSpec.ofChange Rows.ratingLengthsSpec) AeH a Ab3 Tryz.func4
  (Wy (enc:=enc) (C:=Tryz.checked) (W7 os) Lr (World.laidAll_os _ _ _) (World.shaped_of_ZipB (a1 os)<|a2 os) (a3 os)
   (OpenSpec.preRow_of_cond 8 i (by kernel_rfl) (fun k j=>by cases j) (a4 os enc)<|jP os _)) ?_
 intro W base args ds h b c hW _ _ e f g _;exact iS H enc W base args ds h b c hW (AcA f g) e
theorem said:Rows.RatingLengthsSaid:=
 OpenClaim.holds_of_cond 4 Tryz.f4 rfl rfl rfl rfl rfl rfl rfl ⟨rfl,rfl,rfl,rfl,rfl⟩ rfl rfl rfl rfl rfl funcNamed Tryz.func4 closed WM dK
  (fun os a H enc _ F=>by rw[OpenClaim.pre_eq_preRow];exact lifted os a H enc F)
theorem plain(f:FuncId)(fn:Func)(c:Tryz.pinned.checked.prog.funcNamed Rows.ratingLengthsRow.func=some f)(a:Tryz.pinned.checked.prog.funcs[f]?=some fn):
  true=Tryz.pinned.checked.prog.looks []/\∀(j:Nat) t,fn.params[j]?=some t->Tryz.pinned.checked.prog.wantsStandIn t=false:=by
 obtain rfl:f=4:=Option.some.inj (funcNamed.symm.trans c)|>.symm
 obtain rfl:fn=Tryz.f4:=(Option.some.inj<|Tryz.func4.symm.trans a).symm;refine⟨R7.looks,fun j t b=>?_⟩;rw[Tryz.params4]at b;have d:t∈[26,52]:=by simpa using Array.mem_of_getElem? b
 exact(show prog.wantsStandIn t=false by simpa using List.all_eq_true.1 uN t d)
theorem Ad4:Rows.RatingLengthsCardSaid:=
 Claim7.holds_tied_plain_at .later [] _ _ _ _ said (fun _ h=>by cases h) Abm (fun _ h=>by cases h) ratingLengths_row_tie rfl ⟨rfl,rfl⟩ R7.mainIs rfl plain goes
end RatingLengths
theorem ratingLengths_holds:Rows.RatingLengthsCardSaid:=RatingLengths.Ad4
#print axioms ratingLengths_holds
end Go.Proofs.YtlohiljbghionaaGreatDoor
