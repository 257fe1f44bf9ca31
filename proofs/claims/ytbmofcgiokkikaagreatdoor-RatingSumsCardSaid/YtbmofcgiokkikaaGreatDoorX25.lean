import Derived.Test.YtbmofcgiokkikaaGreatDoorX22
import Derived.Test.YtbmofcgiokkikaaGreatDoorX23
import Derived.Test.YtbmofcgiokkikaaGreatDoorX24
/- RatingSums returns true for every input, and each argument reads afterwards as it read before; the listed tables of the library are laid. Made by program out of texts by AI agents. -/
/- RatingSums: the row, the card. -/
namespace Go.Proofs.YtbmofcgiokkikaaGreatDoor
open Go Go.RowKit Go.ChangeShapes Go.WideShapes Go.ChangeAt Go.Det Go.Pe
open Go.Proofs.Tryz (prog)
namespace RatingSums
set_option maxRecDepth 100000 in
theorem lifted(os:Os)(a:os.Started)(H:Type)(enc:TypeId×Value->H)(F:Stop.Interp):
  ReturnsInHanded {} Tryz.checked os 3 .any ((OpenSpec.ofChange Rows.ratingSumsSpec).preRow enc prog Tryz.f3 Rows.ratingSumsRow.domain false Rows.ratingSumsRow.laid) (((OpenSpec.ofChange Rows.ratingSumsSpec).at F).post enc prog Tryz.f3 false true false false):=by
 obtain⟨d,j⟩:=reads os enc;refine returnsInHanded_of_row (C:=Tryz.checked) (s:=OpenSpec.ofChange Rows.ratingSumsSpec) Ag4 a AbT Tryz.func3
  (Wr (enc:=enc) (C:=Tryz.checked) (W7 os) Ml (World.laidAll_os _ _ _) (World.shaped_of_ZipB (a1 os)<|a2 os) (a3 os)
   (OpenSpec.preRow_of_cond 8 j ag (fun k f=>by cases f) (a4 os enc)<|pV os _)) ?_
 intro W base args ds g b c hW _ _ e i h _;exact mL H enc W base args ds g b c hW (AfK i h) e
theorem said:Rows.RatingSumsSaid:=
 OpenClaim.holds_of_cond 3 Tryz.f3 rfl rfl rfl rfl rfl rfl rfl ⟨rfl,rfl,rfl,rfl,rfl⟩ rfl rfl rfl rfl rfl funcNamed Tryz.func3 closed Zh fM
  (fun os a H enc _ F=>by rw[OpenClaim.pre_eq_preRow];exact lifted os a H enc F)
theorem plain(f:FuncId)(fn:Func)(c:Tryz.pinned.checked.prog.funcNamed Rows.ratingSumsRow.func=some f)(a:Tryz.pinned.checked.prog.funcs[f]?=some fn):
  true=Tryz.pinned.checked.prog.looks []/\∀(j:Nat) t,fn.params[j]?=some t->Tryz.pinned.checked.prog.wantsStandIn t=false:=by
 obtain rfl:f=3:=Option.some.inj (funcNamed.symm.trans c)|>.symm
 obtain rfl:fn=Tryz.f3:=(Option.some.inj<|Tryz.func3.symm.trans a).symm;refine⟨R7.looks,fun j t b=>?_⟩;rw[Tryz.params3]at b;have d:t∈[26,28]:=by simpa using Array.mem_of_getElem? b
 exact(show prog.wantsStandIn t=false by simpa using List.all_eq_true.1 uY t d)
theorem AeQ:Rows.RatingSumsCardSaid:=
 Claim7.holds_tied_plain_at .later [] _ _ _ _ said (fun _ h=>by cases h) Ac0 (fun _ h=>by cases h) ratingSums_row_tie rfl ⟨rfl,rfl⟩ R7.mainIs rfl plain goes
end RatingSums
theorem ratingSums_holds:Rows.RatingSumsCardSaid:=RatingSums.AeQ
#print axioms ratingSums_holds
end Go.Proofs.YtbmofcgiokkikaaGreatDoor
