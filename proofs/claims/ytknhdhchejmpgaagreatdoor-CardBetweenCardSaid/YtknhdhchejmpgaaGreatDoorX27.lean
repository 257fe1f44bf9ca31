import Derived.Test.YtknhdhchejmpgaaGreatDoorX24
import Derived.Test.YtknhdhchejmpgaaGreatDoorX25
import Derived.Test.YtknhdhchejmpgaaGreatDoorX26
/- CardBetween returns true for every input, and each argument reads afterwards as it read before; the listed tables of the library are laid. Made by program out of texts by AI agents. -/
/- CardBetween: the row, the card. -/
namespace Go.Proofs.YtknhdhchejmpgaaGreatDoor
open Go Go.RowKit Go.ChangeShapes Go.WideShapes Go.ChangeAt Go.Det Go.Pe
open Go.Proofs.Tryz (prog)
namespace CardBetween
set_option maxRecDepth 100000 in
theorem lifted(os:Os)(started:os.Started)(H:Type)(enc:TypeId×Value->H)(F:Stop.Interp):
  ReturnsInHanded {} Tryz.checked os 9 .any ((OpenSpec.ofChange Rows.cardBetweenSpec).preRow enc prog Tryz.f9 Rows.cardBetweenRow.domain false Rows.cardBetweenRow.laid) (((OpenSpec.ofChange Rows.cardBetweenSpec).at F).post enc prog Tryz.f9 false true false false):=by
 obtain⟨places,hx⟩:=reads os enc;refine returnsInHanded_of_row (C:=Tryz.checked) (s:=OpenSpec.ofChange Rows.cardBetweenSpec) vN started Wn Tryz.func9
  (Mv (enc:=enc) (C:=Tryz.checked) (W7 os) D4 (World.laidAll_os _ _ _) (World.shaped_of_ZipB (a1 os) (a2 os)) (a3 os)
   (OpenSpec.preRow_of_cond 8 hx (by kernel_rfl) (fun k hk=>by cases hk) (a4 os enc) (TK os _))) ?_
 intro W base args ds gs before hval hW _ _ _ hl hs _;exact OV H enc W base args ds gs before hval hW (pN hl hs)
theorem said:Rows.CardBetweenSaid:=
 OpenClaim.holds_of_cond 9 Tryz.f9 rfl rfl rfl rfl rfl rfl rfl ⟨rfl,rfl,rfl,rfl,rfl⟩ rfl rfl rfl rfl rfl funcNamed Tryz.func9 closed JN LO
  (fun os started H enc _ F=>by rw[OpenClaim.pre_eq_preRow];exact lifted os started H enc F)
theorem plain(f:FuncId)(fn:Func)(hf:Tryz.pinned.checked.prog.funcNamed Rows.cardBetweenRow.func=some f)(hfn:Tryz.pinned.checked.prog.funcs[f]?=some fn):
  true=Tryz.pinned.checked.prog.looks []/\∀(j:Nat) t,fn.params[j]?=some t->Tryz.pinned.checked.prog.wantsStandIn t=false:=by
 obtain rfl:f=9:=Option.some.inj (funcNamed.symm.trans hf)|>.symm
 obtain rfl:fn=Tryz.f9:=(Option.some.inj (Tryz.func9.symm.trans hfn)).symm;refine⟨R7.looks,fun j t ht=>?_⟩;rw[Tryz.params9]at ht;have hm:t∈[47,5,5]:=by simpa using Array.mem_of_getElem? ht
 exact(show prog.wantsStandIn t=false by simpa using List.all_eq_true.1 SL t hm)
theorem aW:Rows.CardBetweenCardSaid:=
 Claim7.holds_tied_plain_at .later [] _ _ _ _ said (fun _ h=>by cases h) V7 (fun _ h=>by cases h) cardBetween_row_tie rfl ⟨rfl,rfl⟩ R7.mainIs rfl plain goes
end CardBetween
theorem cardBetween_holds:Rows.CardBetweenCardSaid:=CardBetween.aW
#print axioms cardBetween_holds
end Go.Proofs.YtknhdhchejmpgaaGreatDoor
