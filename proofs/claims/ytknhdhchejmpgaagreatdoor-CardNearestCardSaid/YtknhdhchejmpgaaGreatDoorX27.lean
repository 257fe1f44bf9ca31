import Derived.Test.YtknhdhchejmpgaaGreatDoorX24
import Derived.Test.YtknhdhchejmpgaaGreatDoorX25
import Derived.Test.YtknhdhchejmpgaaGreatDoorX26
/- CardNearest returns true for every input, and each argument reads afterwards as it read before; the listed tables of the library are laid. Made by program out of texts by AI agents. -/
/- CardNearest: the row, the card. -/
namespace Go.Proofs.YtknhdhchejmpgaaGreatDoor
open Go Go.RowKit Go.ChangeShapes Go.WideShapes Go.ChangeAt Go.Det Go.Pe
open Go.Proofs.Tryz (prog)
namespace CardNearest
set_option maxRecDepth 100000 in
theorem lifted(os:Os)(started:os.Started)(H:Type)(enc:TypeId×Value→H)(F:Stop.Interp):
  ReturnsInHanded {} Tryz.checked os 7 .any ((OpenSpec.ofChange Rows.cardNearestSpec).preRow enc prog Tryz.f7 Rows.cardNearestRow.domain false Rows.cardNearestRow.laid) (((OpenSpec.ofChange Rows.cardNearestSpec).at F).post enc prog Tryz.f7 false true false false):=by
 obtain⟨places,hx⟩:=reads os enc;refine returnsInHanded_of_row (C:=Tryz.checked) (s:=OpenSpec.ofChange Rows.cardNearestSpec) uZ started UH Tryz.func7
  (LQ (enc:=enc) (C:=Tryz.checked) (W7 os) D0 (World.laidAll_os _ _ _) (World.shaped_of_ZipB (a1 os) (a2 os)) (a3 os)
   (OpenSpec.preRow_of_cond 8 hx (by kernel_rfl) (fun k hk=>by cases hk) (a4 os enc) (S3 os _))) ?_
 intro W base args ds gs before hval hW _ _ _ hl hs _;exact Nw H enc W base args ds gs before hval hW (oX hl hs)
theorem said:Rows.CardNearestSaid:=
 OpenClaim.holds_of_cond 7 Tryz.f7 rfl rfl rfl rfl rfl rfl rfl ⟨rfl,rfl,rfl,rfl,rfl⟩ rfl rfl rfl rfl rfl funcNamed Tryz.func7 closed Jp Lm
  (fun os started H enc _ F=>by rw[OpenClaim.pre_eq_preRow];exact lifted os started H enc F)
theorem plain(f:FuncId)(fn:Func)(hf:Tryz.pinned.checked.prog.funcNamed Rows.cardNearestRow.func=some f)(hfn:Tryz.pinned.checked.prog.funcs[f]?=some fn):
  true=Tryz.pinned.checked.prog.looks []∧∀(j:Nat) t,fn.params[j]?=some t→Tryz.pinned.checked.prog.wantsStandIn t=false:=by
 obtain rfl:f=7:=Option.some.inj (funcNamed.symm.trans hf)|>.symm
 obtain rfl:fn=Tryz.f7:=(Option.some.inj (Tryz.func7.symm.trans hfn)).symm;refine⟨R7.looks,fun j t ht=>?_⟩;rw[Tryz.params7]at ht;have hm:t∈[22,22,3]:=by simpa using Array.mem_of_getElem? ht
 exact(show prog.wantsStandIn t=false by simpa using List.all_eq_true.1 R2 t hm)
theorem eQ:Rows.CardNearestCardSaid:=
 Claim7.holds_tied_plain_at .later [] _ _ _ _ said (fun _ h=>by cases h) VX (fun _ h=>by cases h) cardNearest_row_tie rfl ⟨rfl,rfl⟩ R7.mainIs rfl plain goes
end CardNearest
theorem cardNearest_holds:Rows.CardNearestCardSaid:=CardNearest.eQ
#print axioms cardNearest_holds
end Go.Proofs.YtknhdhchejmpgaaGreatDoor
