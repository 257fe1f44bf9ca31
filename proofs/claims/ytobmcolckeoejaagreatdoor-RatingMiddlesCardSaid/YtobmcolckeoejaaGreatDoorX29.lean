import Derived.Test.YtobmcolckeoejaaGreatDoorX26
import Derived.Test.YtobmcolckeoejaaGreatDoorX27
import Derived.Test.YtobmcolckeoejaaGreatDoorX28
/- RatingMiddles returns true for every input, and each argument reads afterwards as it read before; the listed tables of the library are laid. Made by program out of texts by AI agents. -/
/- RatingMiddles: the row, the card. -/
namespace Go.Proofs.YtobmcolckeoejaaGreatDoor
open Go Go.RowKit Go.ChangeShapes Go.WideShapes Go.ChangeAt Go.Det Go.Pe
open Go.Proofs.Tryz (prog)
namespace RatingMiddles
set_option maxRecDepth 100000 in
theorem lifted(os:Os)(a:os.Started)(H:Type)(enc:TypeId×Value->H)(F:Stop.Interp):
  ReturnsInHanded {} Tryz.checked os 4 .any ((OpenSpec.ofChange Rows.ratingMiddlesSpec).preRow enc prog Tryz.f4 Rows.ratingMiddlesRow.domain false Rows.ratingMiddlesRow.laid) (((OpenSpec.ofChange Rows.ratingMiddlesSpec).at F).post enc prog Tryz.f4 false true false false):=by
 obtain⟨d,i⟩:=reads os enc;refine returnsInHanded_of_row (C:=Tryz.checked) (s:=OpenSpec.ofChange Rows.ratingMiddlesSpec) Afv a YM Tryz.func4
  (NH (enc:=enc) (C:=Tryz.checked) (W7 os) Ej (World.laidAll_os _ _ _) (World.shaped_of_ZipB (a1 os)<|a2 os) (a3 os)
   (OpenSpec.preRow_of_cond 8 i ag (fun k j=>by cases j) (a4 os enc)<|WO os _)) ?_
 intro W base args ds h b c hW _ _ e f g _;exact P4 H enc W base args ds h b c hW (Abw f g) e
theorem said:Rows.RatingMiddlesSaid:=
 OpenClaim.holds_of_cond 4 Tryz.f4 rfl rfl rfl rfl rfl rfl rfl ⟨rfl,rfl,rfl,rfl,rfl⟩ rfl rfl rfl rfl rfl funcNamed Tryz.func4 closed Kz MF
  (fun os a H enc _ F=>by rw[OpenClaim.pre_eq_preRow];exact lifted os a H enc F)
theorem plain(f:FuncId)(fn:Func)(d:Tryz.pinned.checked.prog.funcNamed Rows.ratingMiddlesRow.func=some f)(a:Tryz.pinned.checked.prog.funcs[f]?=some fn):
  true=Tryz.pinned.checked.prog.looks []/\∀(j:Nat) t,fn.params[j]?=some t->Tryz.pinned.checked.prog.wantsStandIn t=false:=by
 obtain rfl:f=4:=Option.some.inj (funcNamed.symm.trans d)|>.symm
 obtain rfl:fn=Tryz.f4:=(Option.some.inj<|Tryz.func4.symm.trans a).symm;refine⟨R7.looks,fun j t b=>?_⟩;rw[Tryz.params4]at b;have c:t∈[22,24]:=by simpa using Array.mem_of_getElem? b
 exact(show prog.wantsStandIn t=false by simpa using List.all_eq_true.1 UH t c)
theorem sL:Rows.RatingMiddlesCardSaid:=
 Claim7.holds_tied_plain_at .later [] _ _ _ _ said (fun _ h=>by cases h) Xn (fun _ h=>by cases h) ratingMiddles_row_tie rfl ⟨rfl,rfl⟩ R7.mainIs rfl plain goes
end RatingMiddles
theorem ratingMiddles_holds:Rows.RatingMiddlesCardSaid:=RatingMiddles.sL
#print axioms ratingMiddles_holds
end Go.Proofs.YtobmcolckeoejaaGreatDoor
